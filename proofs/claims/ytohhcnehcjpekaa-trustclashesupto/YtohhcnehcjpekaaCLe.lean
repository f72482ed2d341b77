/-
  Contracts: the least explanation by the reference.
-/
import Derived.Test.YtohhcnehcjpekaaCLd
namespace Go.Proofs.Ytohhcnehcjpekaa
open Go.AM
set_option maxRecDepth 100000
set_option maxHeartbeats 1000000
set_option linter.unusedSimpArgs false
set_option linter.unusedVariables false
def ok_least33 (L : List (List Value)) : Bool := decide (L.length ≤ 1000)
def val_least33 (L : List (List Value)) : Value := if possL L then .tuple ⟨[bestV 1 (leastF L 64), .int .i64 0]⟩ else .tuple ⟨[.slice none 0 0, .int .i64 1]⟩
def new_least33 (L : List (List Value)) : List (List Value) := if possL L then bestN (leastF L 64) else []
def spec_least33 : Go.AM.Spec := fun us cs => match us, cs with
 | [s_L], [c_L] => if slOk 0 46 c_L s_L && isRows T.K43 c_L && ok_least33 (chunks 46 c_L) then some (val_least33 (chunks 46 c_L), new_least33 (chunks 46 c_L)) else none
 | _, _ => none
def c_least33 := flatC [.sl 46] spec_least33
theorem least33_m {s_L : Value} {L : List (List Value)} (hs_L : Sl 0 46 L.length s_L) (h_L : cfs T.K43 L) (hok : ok_least33 L = true) : Meets Try.prog (.func 19) [s_L] (cheap [L.flatten]) (val_least33 L) (rheap [L.flatten] (new_least33 L)) := by
 have hP := Fits
 have hC : CallSound Try.prog (tabOf [(42, c_possible), (43, c_lexical), (44, c_explain)]) := tab_sound (tab_cons con_possible (tab_cons con_lexical (tab_cons con_explain tab_end)))
 simp only [ok_least33, Bool.and_eq_true, decide_eq_true_eq] at hok
 have hb := hok
 have hB0 : 100000 ≤ BIG := by unfold BIG; omega
 refine meets_start (sz := 54) hP Try.func19 rfl rfl zo (by simp only [Tr.ofList, roRows, Nat.zero_add, Nat.reduceAdd] <;> rfl) zl ?_
 skip
 ·skip
  refine k_seq ?_
  refine k_region hP hC ?_
  refine os (x_assign rfl (by rfl)) ?_
  refine os (x_assign rfl (by rfl)) ?_
  refine o_done ?_
  refine e_seq ?_
  refine k_seq ?_
  refine k_seq ?_
  refine k_region hP hC ?_
  refine os (x_move rfl zt) ?_
  refine o_call0 (wA_none rfl) rfl rfl rfl zv (by decide) ?_
  refine ⟨_, _, (tab_hit.trans (possible_c (rd_sl hs_L (by decide) (whole_row (by (repeat (first | rw [Tr.get_set, if_neg (by omega)])) <;> first | rfl | assumption | (rw [Tr.get_set, if_pos (by omega)]; done) | (rw [Tr.get_set, if_pos (by omega)]; rfl)) rfl) (cfs_len h_L).symm (cfs_free0 h_L)) h_L (by rw [ok_possible, decide_eq_true (by omega)]))), ?_⟩
  refine os (x_not rfl zt) ?_
  refine o_done ?_
  refine e_seq ?_
  refine k_cond zt (fun g3 => ?_) (fun g3 => ?_)
  ·have p3 := g3; try simp only [d1, d2, d3, d4, d5, d6, d7, d8, d9] at p3
   refine k_seq ?_
   refine k_region hP hC ?_
   refine os (x_assign rfl (by rfl)) ?_
   refine os (x_assign rfl (by rfl)) ?_
   refine o_done ?_
   refine e_seq ?_
   refine k_ret ?_
   refine e_seq_ret ?_
   unfold val_least33 new_least33
   rw [(by assumption : possL L = false)]
   simp only [Bool.false_eq_true, if_false]
   exact gives_mk2 (L := [0]) (w := 1) (.inr rfl) gcOk_one (by simp only [Try.results19, resA, Tr.get_set, reduceIte, Nat.reduceEqDiff, Nat.reduceAdd, g3] <;> rfl) (by rfl) (gcH_cons (gcO_old (by simp only [Bool.and_eq_true, Nat.blt_eq]; exact ⟨Nat.one_pos, by show 0 < _; omega⟩) (by (repeat (first | rw [Tr.get_set, if_neg (by omega)])) <;> first | rfl | assumption | (rw [Tr.get_set, if_pos (by omega)]; done) | (rw [Tr.get_set, if_pos (by omega)]; rfl))) gcH_nil) (Nat.ble_eq_true_of_le (by first | omega | (dsimp only; omega)))
  ·have p3 := g3; try simp only [d1, d2, d3, d4, d5, d6, d7, d8, d9] at p3
   refine k_skip ?_
   refine e_seq ?_
   refine k_seq ?_
   refine k_region hP hC ?_
   refine os (y_bsliceN (cs := ints [0, 1, 2, 3, 4, 5]) rfl (by rfl) Try.underlying22 T.s3 T.z3 (by decide) (by decide) rfl rfl (by rfl)) ?_
   refine os (x_assign rfl zt) ?_
   refine o_done ?_
   refine e_seq ?_
   refine k_seq ?_
   refine k_seq ?_
   refine k_region hP hC ?_
   refine os (x_assign rfl (by rfl)) ?_
   refine o_done ?_
   refine e_seq ?_
   refine k_block ?_
   refine k_nm (fun tS1 nS1 qS1 hxS1 => ?_)
   refine k_loopI (α := Int) (fun bits s => ∃ v e t nx wr, s = ⟨e, 54, ⟨t, nx, wr⟩⟩ ∧ e.get 0 = some (s_L) ∧ e.get 4 = some (v) ∧ e.get 5 = some (.int .i64 bits) ∧ 0 ≤ bits ∧ bits ≤ 64 ∧ nS1 ≤ nx ∧ (nx : Int) ≤ nS1 + 20 * bits ∧ 1 ≤ wr ∧ wr ≤ BIG ∧ (∀ id, id < nS1 → t.get id = tS1.get id) ∧ BestP t nx v (leastF L bits)) (fun bits => (64 - bits).toNat) 0 ⟨_, _, _, _, _, rfl, zh, zh, zh, by omega, by omega, by omega, by omega, by omega, by omega, fun _ _ => rfl, .inl ⟨rfl, rfl, 1, rfl, ⟨BIG, 0, .inl ⟨rfl, by (repeat (first | rw [Tr.get_set, if_neg (by omega)] | rw [hxS1 _ (by omega)])) <;> first | rfl | assumption | (rw [Tr.get_set, if_pos (by omega)]; done) | (rw [Tr.get_set, if_pos (by omega)]; rfl)⟩⟩, by omega, by omega⟩⟩ ?_
   rintro bits s ⟨v4, e, t, nx, wr, rfl, he2_0, he2_4, he2_5, h0, h1, n0, nb, w1, wb, hx2, hB⟩
   refine k_seq ?_
   refine k_seq ?_
   refine k_region hP hC ?_
   refine os (x_move rfl za) ?_
   refine os (x_bin rfl za (by rfl) b_lss) ?_
   refine o_done ?_
   refine e_seq ?_
   refine k_cond (by simp only [Tr.get_set, reduceIte, Nat.reduceEqDiff, Nat.reduceAdd, ev_tmp, he2_0, he2_4, he2_5] <;> rfl) (fun g5 => ?_) (fun g5 => ?_)
   ·have p5 := g5; try simp only [d1, d2, d3, d4, d5, d6, d7, d8, d9] at p5
    refine k_skip ?_
    refine e_seq ?_
    refine k_seq ?_
    refine k_block ?_
    refine k_seq ?_
    refine k_region hP hC ?_
    refine os (x_assign rfl (by rfl)) ?_
    refine o_done ?_
    refine e_seq ?_
    refine k_seq ?_
    refine k_seq ?_
    refine k_region hP hC ?_
    refine os (x_assign rfl (by rfl)) ?_
    refine o_done ?_
    refine e_seq ?_
    refine k_block ?_
    refine k_nm (fun tS3 nS3 qS3 hxS3 => ?_)
    have w1N := w1
    have wbN := wb
    have hBN : BestP tS3 nS3 v4 (leastF L bits) := hB.keep (by omega) (fun id hid => by (repeat (first | rw [Tr.get_set, if_neg (by omega)] | rw [hxS3 _ (by omega)] | rw [hx2 _ (by omega)] | rw [hxS1 _ (by omega)])) <;> first | rfl | assumption | (rw [Tr.get_set, if_pos (by omega)]; done) | (rw [Tr.get_set, if_pos (by omega)]; rfl))
    refine k_loopI (α := Int) (fun w s => ∃ v e t nx wr S, s = ⟨e, 54, ⟨t, nx, wr⟩⟩ ∧ e.get 0 = some (s_L) ∧ e.get 4 = some (v4) ∧ e.get 5 = some (.int .i64 bits) ∧ e.get 6 = some (v) ∧ e.get 7 = some (.int .i64 w) ∧ 0 ≤ w ∧ w ≤ 6 ∧ nS3 ≤ nx ∧ (nx : Int) ≤ nS3 + 2 * w ∧ 1 ≤ wr ∧ wr ≤ BIG ∧ (∀ id, id < nS3 → t.get id = tS3.get id) ∧ AccP t nS3 nx S 1 v (subL bits w).length (ints (subL bits w))) (fun w => (6 - w).toNat) 0 ⟨_, _, _, _, _, _, rfl, za, za, za, za, za, by omega, by omega, by omega, by omega, by omega, by omega, fun _ _ => rfl, .start⟩ ?_
    rintro w s ⟨v6, e, t, nx, wr, S, rfl, he4_0, he4_4, he4_5, he4_6, he4_7, j0, j1, n0, nb2, w1, wb, hx4, a3⟩
    have no3 := a3.no
    have hsl := @sub_len bits w
    refine k_seq ?_
    refine k_seq ?_
    refine k_region hP hC ?_
    refine os (x_move rfl za) ?_
    refine os (x_bin rfl za (by rfl) b_lss) ?_
    refine o_done ?_
    refine e_seq ?_
    refine k_cond (by simp only [Tr.get_set, reduceIte, Nat.reduceEqDiff, Nat.reduceAdd, ev_tmp, he4_0, he4_4, he4_5, he4_6, he4_7] <;> rfl) (fun g7 => ?_) (fun g7 => ?_)
    ·have p7 := g7; try simp only [d1, d2, d3, d4, d5, d6, d7, d8, d9] at p7
     refine k_skip ?_
     refine e_seq ?_
     refine k_seq ?_
     refine k_block ?_
     refine k_seq ?_
     refine k_region hP hC ?_
     refine os (x_move rfl za) ?_
     refine os (x_move rfl za) ?_
     refine os (x_convI rfl za Try.underlying3 Try.underlying77) ?_
     refine os (x_bin rfl za za (b_shr (u64_nonneg _))) ?_
     refine os (x_bin rfl za (by rfl) (b_rem (by first | decide | omega))) ?_
     refine os (x_bin rfl za (by rfl) b_eql) ?_
     refine o_done ?_
     refine e_seq ?_
     refine k_cond (by simp only [Tr.get_set, reduceIte, Nat.reduceEqDiff, Nat.reduceAdd, ev_tmp, g7] <;> rfl) (fun g9 => ?_) (fun g9 => ?_)
     ·have p9 := g9; try simp only [d1, d2, d3, d4, d5, d6, d7, d8, d9] at p9
      refine k_region hP hC ?_
      refine os (x_move rfl za) ?_
      refine os (x_move rfl za) ?_
      refine os (y_bsliceV rfl za rfl Try.underlying22 T.s3 T.z3 rfl rfl) ?_
      refine o_appS a3 (by omega) (fun x hs => by rw [Tr.get_set, if_neg (by have := a3.bnd x hs; omega)]) (by omega) (wA_none rfl) rfl rfl rfl (by simp only [evs, ev_tmp, Tr.get_set, reduceIte, Nat.reduceEqDiff, Nat.reduceAdd, he4_0, he4_4, he4_5, he4_6, he4_7, g7, g9] <;> rfl) rfl rfl zr (cells_row Try.underlying22 T.s3 (l_all (whole_row (by (repeat (first | rw [Tr.get_set, if_neg (by omega)] | rw [hx4 _ (by omega)] | rw [hxS3 _ (by omega)] | rw [hx2 _ (by omega)] | rw [hxS1 _ (by omega)])) <;> first | rfl | assumption | (rw [Tr.get_set, if_pos (by omega)]; done) | (rw [Tr.get_set, if_pos (by omega)]; rfl)) rfl) rfl)) Try.underlying22 T.i22 (by decide) rfl (by omega) (by omega) rfl (by decide) (by decide) (fun vB tB wB b1B b2B aB kB => ?_)
      refine os (x_assign rfl za) ?_
      refine o_done ?_
      refine e_block ?_
      refine e_seq ?_
      refine k_region hP hC ?_
      refine os (x_move rfl za) ?_
      refine os (x_bin rfl za (by rfl) b_add) ?_
      refine os (x_assign rfl za) ?_
      refine o_done ?_
      refine e_loop ?_
      have hw1 : IntKind.i64.wrap (w + 1) = w + 1 := wr1 (by omega) (by omega)
      have hN := sub_hit (bits := bits) j0 (by assumption)
      refine ⟨IntKind.i64.wrap (w + 1), ⟨vB, _, _, _, _, _, rfl, za, za, za, za, za, by rw [hw1]; omega, by rw [hw1]; omega, by omega, by rw [hw1]; omega, by omega, by omega, fun id hid => by (repeat (first | rw [Tr.get_set, if_neg (by omega)] | rw [kB _ (no3 _ (by omega)) (by omega)] | rw [hx4 _ (by omega)] | rw [hxS3 _ (by omega)] | rw [hx2 _ (by omega)] | rw [hxS1 _ (by omega)])) <;> first | rfl | assumption | (rw [Tr.get_set, if_pos (by omega)]; done) | (rw [Tr.get_set, if_pos (by omega)]; rfl), by rw [hw1, hN, ints_append, List.length_append]; exact aB⟩, ?_⟩
      ·show (6 - IntKind.i64.wrap (w + 1)).toNat < (6 - w).toNat; rw [hw1]; omega
     ·have p9 := g9; try simp only [d1, d2, d3, d4, d5, d6, d7, d8, d9] at p9
      refine k_skip ?_
      refine e_block ?_
      refine e_seq ?_
      refine k_region hP hC ?_
      refine os (x_move rfl za) ?_
      refine os (x_bin rfl za (by rfl) b_add) ?_
      refine os (x_assign rfl za) ?_
      refine o_done ?_
      refine e_loop ?_
      have hw1 : IntKind.i64.wrap (w + 1) = w + 1 := wr1 (by omega) (by omega)
      have hN := sub_skip (bits := bits) j0 (by assumption)
      refine ⟨IntKind.i64.wrap (w + 1), ⟨v6, _, _, _, _, _, rfl, za, za, za, za, za, by rw [hw1]; omega, by rw [hw1]; omega, by omega, by rw [hw1]; omega, by omega, by omega, fun id hid => by (repeat (first | rw [Tr.get_set, if_neg (by omega)] | rw [hx4 _ (by omega)] | rw [hxS3 _ (by omega)] | rw [hx2 _ (by omega)] | rw [hxS1 _ (by omega)])) <;> first | rfl | assumption | (rw [Tr.get_set, if_pos (by omega)]; done) | (rw [Tr.get_set, if_pos (by omega)]; rfl), by rw [hw1, hN]; exact a3⟩, ?_⟩
      ·show (6 - IntKind.i64.wrap (w + 1)).toNat < (6 - w).toNat; rw [hw1]; omega
    ·have p7 := g7; try simp only [d1, d2, d3, d4, d5, d6, d7, d8, d9] at p7
     refine k_exit ?_
     refine e_seq_exit ?_
     refine e_loop_exit ?_
     refine e_block_eq ?_
     refine e_seq ?_
     refine k_seq ?_
     have hw6 : w = 6 := by omega
     subst hw6
     obtain ⟨M, hM⟩ : ∃ M, M = subL bits 6 := ⟨_, rfl⟩
     rw [← hM] at a3 hsl
     obtain ⟨z, hz⟩ : ∃ z, z = leastF L bits := ⟨_, rfl⟩
     have hzl : z.2.length ≤ 6 := by rw [hz]; exact leastF_len
     have hB2 : BestP t nx v4 z := by rw [hz]; exact hBN.keep (by omega) hx4
     clear hBN hB
     refine k_region hP hC ?_
     refine os (x_move rfl za) ?_
     refine os (x_lenD a3.rds rfl rfl (by simp only [evs, ev_tmp, Tr.get_set, reduceIte, Nat.reduceEqDiff, Nat.reduceAdd, he4_0, he4_4, he4_5, he4_6, he4_7, g7] <;> rfl) rfl Try.underlying22) ?_
     refine os (x_move rfl za) ?_
     refine os (x_lenQ hB2.q rfl rfl (by simp only [evs, ev_tmp, Tr.get_set, reduceIte, Nat.reduceEqDiff, Nat.reduceAdd, he4_0, he4_4, he4_5, he4_6, he4_7, g7] <;> rfl) rfl Try.underlying22) ?_
     refine os (x_bin rfl za za b_lss) ?_
     refine os (x_move rfl za) ?_
     refine o_guard rfl rfl za (fun g11 => ?_) (fun g11 => ?_)
     ·have p11 := g11; try simp only [d1, d2, d3, d4, d5, d6, d7, d8, d9] at p11
      refine o_skip (wA_off rfl rfl (by simp only [Tr.get_set, reduceIte, Nat.reduceEqDiff, Nat.reduceAdd, g7, g11] <;> rfl)) rfl (by decide) ?_
      refine o_skip (wA_off rfl rfl (by simp only [Tr.get_set, reduceIte, Nat.reduceEqDiff, Nat.reduceAdd, g7, g11] <;> rfl)) rfl (by decide) ?_
      refine o_skip (wA_off rfl rfl (by simp only [Tr.get_set, reduceIte, Nat.reduceEqDiff, Nat.reduceAdd, g7, g11] <;> rfl)) rfl (by decide) ?_
      refine o_skip (wA_off rfl rfl (by simp only [Tr.get_set, reduceIte, Nat.reduceEqDiff, Nat.reduceAdd, g7, g11] <;> rfl)) rfl (by decide) ?_
      refine o_skip (wA_off rfl rfl (by simp only [Tr.get_set, reduceIte, Nat.reduceEqDiff, Nat.reduceAdd, g7, g11] <;> rfl)) rfl (by decide) ?_
      refine o_skip (wA_off rfl rfl (by simp only [Tr.get_set, reduceIte, Nat.reduceEqDiff, Nat.reduceAdd, g7, g11] <;> rfl)) rfl (by decide) ?_
      refine o_skip (wA_undef rfl rfl (by simp only [Tr.get_set, reduceIte, Nat.reduceEqDiff, Nat.reduceAdd, g7, g11] <;> rfl)) rfl (by decide) ?_
      refine o_skip (wA_undef rfl rfl (by simp only [Tr.get_set, reduceIte, Nat.reduceEqDiff, Nat.reduceAdd, g7, g11] <;> rfl)) rfl (by decide) ?_
      refine o_skip (wA_undef rfl rfl (by simp only [Tr.get_set, reduceIte, Nat.reduceEqDiff, Nat.reduceAdd, g7, g11] <;> rfl)) rfl (by decide) ?_
      refine o_skip (wA_off rfl rfl (by simp only [Tr.get_set, reduceIte, Nat.reduceEqDiff, Nat.reduceAdd, g7, g11] <;> rfl)) rfl (by decide) ?_
      refine os (x_pick rfl (by simp only [Tr.get_set, reduceIte, Nat.reduceEqDiff, Nat.reduceAdd, ev_tmp, g7, g11] <;> rfl) (by simp only [if_true, if_false, Bool.false_eq_true, ev_tmp, Tr.get_set, reduceIte, Nat.reduceEqDiff, Nat.reduceAdd, g7, g11]; rfl)) ?_
      refine os (x_move rfl za) ?_
      refine o_step (wA_on rfl rfl (by simp only [Tr.get_set, reduceIte, Nat.reduceEqDiff, Nat.reduceAdd, g7, g11] <;> rfl)) rfl (x_move rfl za) (by decide) ?_
      refine o_step (wA_on rfl rfl (by simp only [Tr.get_set, reduceIte, Nat.reduceEqDiff, Nat.reduceAdd, g7, g11] <;> rfl)) rfl (x_move rfl za) (by decide) ?_
      refine o_call0 (wA_on rfl rfl (by simp only [Tr.get_set, reduceIte, Nat.reduceEqDiff, Nat.reduceAdd, g7, g11] <;> rfl)) rfl rfl rfl (by simp only [evs, ev_tmp, Tr.get_set, reduceIte, Nat.reduceEqDiff, Nat.reduceAdd, he4_0, he4_4, he4_5, he4_6, he4_7, g7, g11] <;> rfl) (by decide) ?_
      refine ⟨_, _, ((tab_miss (by decide)).trans ((tab_miss (by decide)).trans (tab_hit.trans (explain_c (w := M) (rd_sl hs_L (by decide) (whole_row (by (repeat (first | rw [Tr.get_set, if_neg (by omega)] | rw [hx4 _ (by omega)] | rw [hxS3 _ (by omega)] | rw [hx2 _ (by omega)] | rw [hxS1 _ (by omega)])) <;> first | rfl | assumption | (rw [Tr.get_set, if_pos (by omega)]; done) | (rw [Tr.get_set, if_pos (by omega)]; rfl)) rfl) (cfs_len h_L).symm (cfs_free0 h_L)) h_L (a3.rds.rd (by decide) (ints_free0 _)) (by rw [ok_explain, Bool.and_eq_true, decide_eq_true_eq, decide_eq_true_eq]; exact ⟨hb, by omega⟩))))), ?_⟩
      refine os (x_pick rfl (by simp only [Tr.get_set, reduceIte, Nat.reduceEqDiff, Nat.reduceAdd, ev_tmp, g7, g11] <;> rfl) (by simp only [if_true, if_false, Bool.false_eq_true, ev_tmp, Tr.get_set, reduceIte, Nat.reduceEqDiff, Nat.reduceAdd, g7, g11]; rfl)) ?_
      refine o_done ?_
      refine e_seq ?_
      refine k_cond (by simp only [Tr.get_set, reduceIte, Nat.reduceEqDiff, Nat.reduceAdd, ev_tmp, g7, g11] <;> rfl) (fun g13 => ?_) (fun g13 => ?_)
      ·have p13 := g13; try simp only [d1, d2, d3, d4, d5, d6, d7, d8, d9] at p13
       refine k_region hP hC ?_
       refine os (x_move rfl za) ?_
       refine os (x_assign rfl za) ?_
       refine o_done ?_
       refine e_block ?_
       refine e_seq ?_
       refine k_region hP hC ?_
       refine os (x_move rfl za) ?_
       refine os (x_bin rfl za (by rfl) b_add) ?_
       refine os (x_assign rfl za) ?_
       refine o_done ?_
       refine e_loop ?_
       have hw2 : IntKind.i64.wrap (bits + 1) = bits + 1 := wr1 (by omega) (by omega)
       have hN : leastF L (bits + 1) = (false, M) := ls_yes h0 hz.symm rfl hM (by assumption) (by first | (left; omega) | (right; exact ⟨by omega, by assumption⟩))
       refine ⟨IntKind.i64.wrap (bits + 1), ⟨v6, _, _, _, _, rfl, za, za, za, by rw [hw2]; omega, by rw [hw2]; omega, by omega, by rw [hw2]; omega, by omega, by omega, fun id hid => by (repeat (first | rw [Tr.get_set, if_neg (by omega)] | rw [hx4 _ (by omega)] | rw [hxS3 _ (by omega)] | rw [hx2 _ (by omega)] | rw [hxS1 _ (by omega)])) <;> first | rfl | assumption | (rw [Tr.get_set, if_pos (by omega)]; done) | (rw [Tr.get_set, if_pos (by omega)]; rfl), by rw [hw2]; exact (hN ▸ .inr ⟨rfl, S, a3.low (by omega)⟩)⟩, ?_⟩
       ·show (64 - IntKind.i64.wrap (bits + 1)).toNat < (64 - bits).toNat; rw [hw2]; omega
      ·have p13 := g13; try simp only [d1, d2, d3, d4, d5, d6, d7, d8, d9] at p13
       refine k_skip ?_
       refine e_block ?_
       refine e_seq ?_
       refine k_region hP hC ?_
       refine os (x_move rfl za) ?_
       refine os (x_bin rfl za (by rfl) b_add) ?_
       refine os (x_assign rfl za) ?_
       refine o_done ?_
       refine e_loop ?_
       have hw2 : IntKind.i64.wrap (bits + 1) = bits + 1 := wr1 (by omega) (by omega)
       have hN : leastF L (bits + 1) = z := ls_no h0 hz.symm rfl hM (by first | (left; assumption) | (right; exact ⟨by omega, by first | (left; omega) | (right; assumption)⟩))
       refine ⟨IntKind.i64.wrap (bits + 1), ⟨v4, _, _, _, _, rfl, za, za, za, by rw [hw2]; omega, by rw [hw2]; omega, by omega, by rw [hw2]; omega, by omega, by omega, fun id hid => by (repeat (first | rw [Tr.get_set, if_neg (by omega)] | rw [hx4 _ (by omega)] | rw [hxS3 _ (by omega)] | rw [hx2 _ (by omega)] | rw [hxS1 _ (by omega)])) <;> first | rfl | assumption | (rw [Tr.get_set, if_pos (by omega)]; done) | (rw [Tr.get_set, if_pos (by omega)]; rfl), by rw [hw2]; exact (hN ▸ hB2)⟩, ?_⟩
       ·show (64 - IntKind.i64.wrap (bits + 1)).toNat < (64 - bits).toNat; rw [hw2]; omega
     ·have p11 := g11; try simp only [d1, d2, d3, d4, d5, d6, d7, d8, d9] at p11
      refine o_step (wA_on rfl rfl (by simp only [Tr.get_set, reduceIte, Nat.reduceEqDiff, Nat.reduceAdd, g7, g11] <;> rfl)) rfl (x_move rfl za) (by decide) ?_
      refine o_step (wA_on rfl rfl (by simp only [Tr.get_set, reduceIte, Nat.reduceEqDiff, Nat.reduceAdd, g7, g11] <;> rfl)) rfl (x_lenD a3.rds rfl rfl (by simp only [evs, ev_tmp, Tr.get_set, reduceIte, Nat.reduceEqDiff, Nat.reduceAdd, he4_0, he4_4, he4_5, he4_6, he4_7, g7, g11] <;> rfl) rfl Try.underlying22) (by decide) ?_
      refine o_step (wA_on rfl rfl (by simp only [Tr.get_set, reduceIte, Nat.reduceEqDiff, Nat.reduceAdd, g7, g11] <;> rfl)) rfl (x_move rfl za) (by decide) ?_
      refine o_step (wA_on rfl rfl (by simp only [Tr.get_set, reduceIte, Nat.reduceEqDiff, Nat.reduceAdd, g7, g11] <;> rfl)) rfl (x_lenQ hB2.q rfl rfl (by simp only [evs, ev_tmp, Tr.get_set, reduceIte, Nat.reduceEqDiff, Nat.reduceAdd, he4_0, he4_4, he4_5, he4_6, he4_7, g7, g11] <;> rfl) rfl Try.underlying22) (by decide) ?_
      refine o_step (wA_on rfl rfl (by simp only [Tr.get_set, reduceIte, Nat.reduceEqDiff, Nat.reduceAdd, g7, g11] <;> rfl)) rfl (x_bin rfl za za b_eql) (by decide) ?_
      refine o_step (wA_on rfl rfl (by simp only [Tr.get_set, reduceIte, Nat.reduceEqDiff, Nat.reduceAdd, g7, g11] <;> rfl)) rfl (x_move rfl za) (by decide) ?_
      refine o_guard rfl rfl za (fun g15 => ?_) (fun g15 => ?_)
      ·have p15 := g15; try simp only [d1, d2, d3, d4, d5, d6, d7, d8, d9] at p15
       refine o_step (wA_on rfl rfl (by simp only [Tr.get_set, reduceIte, Nat.reduceEqDiff, Nat.reduceAdd, g7, g11, g15] <;> rfl)) rfl (x_move rfl za) (by decide) ?_
       refine o_step (wA_on rfl rfl (by simp only [Tr.get_set, reduceIte, Nat.reduceEqDiff, Nat.reduceAdd, g7, g11, g15] <;> rfl)) rfl (x_move rfl za) (by decide) ?_
       refine o_call0 (wA_on rfl rfl (by simp only [Tr.get_set, reduceIte, Nat.reduceEqDiff, Nat.reduceAdd, g7, g11, g15] <;> rfl)) rfl rfl rfl (by simp only [evs, ev_tmp, Tr.get_set, reduceIte, Nat.reduceEqDiff, Nat.reduceAdd, he4_0, he4_4, he4_5, he4_6, he4_7, g7, g11, g15] <;> rfl) (by decide) ?_
       refine ⟨_, _, ((tab_miss (by decide)).trans (tab_hit.trans (lexical_c (l := M) (m := z.2) (a3.rds.rd (by decide) (ints_free0 _)) (hB2.q.rd (by decide) (ints_free0 _)) (by rw [ok_lexical, Bool.and_eq_true, decide_eq_true_eq, decide_eq_true_eq]; constructor <;> omega)))), ?_⟩
       refine o_step (wA_on rfl rfl (by simp only [Tr.get_set, reduceIte, Nat.reduceEqDiff, Nat.reduceAdd, g7, g11, g15] <;> rfl)) rfl (x_pick rfl (by simp only [Tr.get_set, reduceIte, Nat.reduceEqDiff, Nat.reduceAdd, ev_tmp, g7, g11, g15] <;> rfl) (by simp only [if_true, if_false, Bool.false_eq_true, ev_tmp, Tr.get_set, reduceIte, Nat.reduceEqDiff, Nat.reduceAdd, g7, g11, g15]; rfl)) (by decide) ?_
       refine os (x_pick rfl (by simp only [Tr.get_set, reduceIte, Nat.reduceEqDiff, Nat.reduceAdd, ev_tmp, g7, g11, g15] <;> rfl) (by simp only [if_true, if_false, Bool.false_eq_true, ev_tmp, Tr.get_set, reduceIte, Nat.reduceEqDiff, Nat.reduceAdd, g7, g11, g15]; rfl)) ?_
       refine os (x_move rfl za) ?_
       refine o_guard rfl rfl za (fun g17 => ?_) (fun g17 => ?_)
       ·have p17 := g17; try simp only [d1, d2, d3, d4, d5, d6, d7, d8, d9] at p17
        refine o_step (wA_on rfl rfl (by simp only [Tr.get_set, reduceIte, Nat.reduceEqDiff, Nat.reduceAdd, g7, g11, g15, g17] <;> rfl)) rfl (x_move rfl za) (by decide) ?_
        refine o_step (wA_on rfl rfl (by simp only [Tr.get_set, reduceIte, Nat.reduceEqDiff, Nat.reduceAdd, g7, g11, g15, g17] <;> rfl)) rfl (x_move rfl za) (by decide) ?_
        refine o_call0 (wA_on rfl rfl (by simp only [Tr.get_set, reduceIte, Nat.reduceEqDiff, Nat.reduceAdd, g7, g11, g15, g17] <;> rfl)) rfl rfl rfl (by simp only [evs, ev_tmp, Tr.get_set, reduceIte, Nat.reduceEqDiff, Nat.reduceAdd, he4_0, he4_4, he4_5, he4_6, he4_7, g7, g11, g15, g17] <;> rfl) (by decide) ?_
        refine ⟨_, _, ((tab_miss (by decide)).trans ((tab_miss (by decide)).trans (tab_hit.trans (explain_c (w := M) (rd_sl hs_L (by decide) (whole_row (by (repeat (first | rw [Tr.get_set, if_neg (by omega)] | rw [hx4 _ (by omega)] | rw [hxS3 _ (by omega)] | rw [hx2 _ (by omega)] | rw [hxS1 _ (by omega)])) <;> first | rfl | assumption | (rw [Tr.get_set, if_pos (by omega)]; done) | (rw [Tr.get_set, if_pos (by omega)]; rfl)) rfl) (cfs_len h_L).symm (cfs_free0 h_L)) h_L (a3.rds.rd (by decide) (ints_free0 _)) (by rw [ok_explain, Bool.and_eq_true, decide_eq_true_eq, decide_eq_true_eq]; exact ⟨hb, by omega⟩))))), ?_⟩
        refine os (x_pick rfl (by simp only [Tr.get_set, reduceIte, Nat.reduceEqDiff, Nat.reduceAdd, ev_tmp, g7, g11, g15, g17] <;> rfl) (by simp only [if_true, if_false, Bool.false_eq_true, ev_tmp, Tr.get_set, reduceIte, Nat.reduceEqDiff, Nat.reduceAdd, g7, g11, g15, g17]; rfl)) ?_
        refine o_done ?_
        refine e_seq ?_
        refine k_cond (by simp only [Tr.get_set, reduceIte, Nat.reduceEqDiff, Nat.reduceAdd, ev_tmp, g7, g11, g15, g17] <;> rfl) (fun g19 => ?_) (fun g19 => ?_)
        ·have p19 := g19; try simp only [d1, d2, d3, d4, d5, d6, d7, d8, d9] at p19
         refine k_region hP hC ?_
         refine os (x_move rfl za) ?_
         refine os (x_assign rfl za) ?_
         refine o_done ?_
         refine e_block ?_
         refine e_seq ?_
         refine k_region hP hC ?_
         refine os (x_move rfl za) ?_
         refine os (x_bin rfl za (by rfl) b_add) ?_
         refine os (x_assign rfl za) ?_
         refine o_done ?_
         refine e_loop ?_
         have hw2 : IntKind.i64.wrap (bits + 1) = bits + 1 := wr1 (by omega) (by omega)
         have hN : leastF L (bits + 1) = (false, M) := ls_yes h0 hz.symm rfl hM (by assumption) (by first | (left; omega) | (right; exact ⟨by omega, by assumption⟩))
         refine ⟨IntKind.i64.wrap (bits + 1), ⟨v6, _, _, _, _, rfl, za, za, za, by rw [hw2]; omega, by rw [hw2]; omega, by omega, by rw [hw2]; omega, by omega, by omega, fun id hid => by (repeat (first | rw [Tr.get_set, if_neg (by omega)] | rw [hx4 _ (by omega)] | rw [hxS3 _ (by omega)] | rw [hx2 _ (by omega)] | rw [hxS1 _ (by omega)])) <;> first | rfl | assumption | (rw [Tr.get_set, if_pos (by omega)]; done) | (rw [Tr.get_set, if_pos (by omega)]; rfl), by rw [hw2]; exact (hN ▸ .inr ⟨rfl, S, a3.low (by omega)⟩)⟩, ?_⟩
         ·show (64 - IntKind.i64.wrap (bits + 1)).toNat < (64 - bits).toNat; rw [hw2]; omega
        ·have p19 := g19; try simp only [d1, d2, d3, d4, d5, d6, d7, d8, d9] at p19
         refine k_skip ?_
         refine e_block ?_
         refine e_seq ?_
         refine k_region hP hC ?_
         refine os (x_move rfl za) ?_
         refine os (x_bin rfl za (by rfl) b_add) ?_
         refine os (x_assign rfl za) ?_
         refine o_done ?_
         refine e_loop ?_
         have hw2 : IntKind.i64.wrap (bits + 1) = bits + 1 := wr1 (by omega) (by omega)
         have hN : leastF L (bits + 1) = z := ls_no h0 hz.symm rfl hM (by first | (left; assumption) | (right; exact ⟨by omega, by first | (left; omega) | (right; assumption)⟩))
         refine ⟨IntKind.i64.wrap (bits + 1), ⟨v4, _, _, _, _, rfl, za, za, za, by rw [hw2]; omega, by rw [hw2]; omega, by omega, by rw [hw2]; omega, by omega, by omega, fun id hid => by (repeat (first | rw [Tr.get_set, if_neg (by omega)] | rw [hx4 _ (by omega)] | rw [hxS3 _ (by omega)] | rw [hx2 _ (by omega)] | rw [hxS1 _ (by omega)])) <;> first | rfl | assumption | (rw [Tr.get_set, if_pos (by omega)]; done) | (rw [Tr.get_set, if_pos (by omega)]; rfl), by rw [hw2]; exact (hN ▸ hB2)⟩, ?_⟩
         ·show (64 - IntKind.i64.wrap (bits + 1)).toNat < (64 - bits).toNat; rw [hw2]; omega
       ·have p17 := g17; try simp only [d1, d2, d3, d4, d5, d6, d7, d8, d9] at p17
        refine o_skip (wA_off rfl rfl (by simp only [Tr.get_set, reduceIte, Nat.reduceEqDiff, Nat.reduceAdd, g7, g11, g15, g17] <;> rfl)) rfl (by decide) ?_
        refine o_skip (wA_off rfl rfl (by simp only [Tr.get_set, reduceIte, Nat.reduceEqDiff, Nat.reduceAdd, g7, g11, g15, g17] <;> rfl)) rfl (by decide) ?_
        refine o_skip (wA_off rfl rfl (by simp only [Tr.get_set, reduceIte, Nat.reduceEqDiff, Nat.reduceAdd, g7, g11, g15, g17] <;> rfl)) rfl (by decide) ?_
        refine os (x_pick rfl (by simp only [Tr.get_set, reduceIte, Nat.reduceEqDiff, Nat.reduceAdd, ev_tmp, g7, g11, g15, g17] <;> rfl) (by simp only [if_true, if_false, Bool.false_eq_true, ev_tmp, Tr.get_set, reduceIte, Nat.reduceEqDiff, Nat.reduceAdd, g7, g11, g15, g17]; rfl)) ?_
        refine o_done ?_
        refine e_seq ?_
        refine k_condF (by simp only [Tr.get_set, reduceIte, Nat.reduceEqDiff, Nat.reduceAdd, ev_tmp, g7, g11, g15, g17] <;> rfl) ?_
        refine k_skip ?_
        refine e_block ?_
        refine e_seq ?_
        refine k_region hP hC ?_
        refine os (x_move rfl za) ?_
        refine os (x_bin rfl za (by rfl) b_add) ?_
        refine os (x_assign rfl za) ?_
        refine o_done ?_
        refine e_loop ?_
        have hw2 : IntKind.i64.wrap (bits + 1) = bits + 1 := wr1 (by omega) (by omega)
        have hN : leastF L (bits + 1) = z := ls_no h0 hz.symm rfl hM (by first | (left; assumption) | (right; exact ⟨by omega, by first | (left; omega) | (right; assumption)⟩))
        refine ⟨IntKind.i64.wrap (bits + 1), ⟨v4, _, _, _, _, rfl, za, za, za, by rw [hw2]; omega, by rw [hw2]; omega, by omega, by rw [hw2]; omega, by omega, by omega, fun id hid => by (repeat (first | rw [Tr.get_set, if_neg (by omega)] | rw [hx4 _ (by omega)] | rw [hxS3 _ (by omega)] | rw [hx2 _ (by omega)] | rw [hxS1 _ (by omega)])) <;> first | rfl | assumption | (rw [Tr.get_set, if_pos (by omega)]; done) | (rw [Tr.get_set, if_pos (by omega)]; rfl), by rw [hw2]; exact (hN ▸ hB2)⟩, ?_⟩
        ·show (64 - IntKind.i64.wrap (bits + 1)).toNat < (64 - bits).toNat; rw [hw2]; omega
      ·have p15 := g15; try simp only [d1, d2, d3, d4, d5, d6, d7, d8, d9] at p15
       refine o_skip (wA_off rfl rfl (by simp only [Tr.get_set, reduceIte, Nat.reduceEqDiff, Nat.reduceAdd, g7, g11, g15] <;> rfl)) rfl (by decide) ?_
       refine o_skip (wA_off rfl rfl (by simp only [Tr.get_set, reduceIte, Nat.reduceEqDiff, Nat.reduceAdd, g7, g11, g15] <;> rfl)) rfl (by decide) ?_
       refine o_skip (wA_off rfl rfl (by simp only [Tr.get_set, reduceIte, Nat.reduceEqDiff, Nat.reduceAdd, g7, g11, g15] <;> rfl)) rfl (by decide) ?_
       refine o_step (wA_on rfl rfl (by simp only [Tr.get_set, reduceIte, Nat.reduceEqDiff, Nat.reduceAdd, g7, g11, g15] <;> rfl)) rfl (x_pick rfl (by simp only [Tr.get_set, reduceIte, Nat.reduceEqDiff, Nat.reduceAdd, ev_tmp, g7, g11, g15] <;> rfl) (by simp only [if_true, if_false, Bool.false_eq_true, ev_tmp, Tr.get_set, reduceIte, Nat.reduceEqDiff, Nat.reduceAdd, g7, g11, g15]; rfl)) (by decide) ?_
       refine os (x_pick rfl (by simp only [Tr.get_set, reduceIte, Nat.reduceEqDiff, Nat.reduceAdd, ev_tmp, g7, g11, g15] <;> rfl) (by simp only [if_true, if_false, Bool.false_eq_true, ev_tmp, Tr.get_set, reduceIte, Nat.reduceEqDiff, Nat.reduceAdd, g7, g11, g15]; rfl)) ?_
       refine os (x_move rfl za) ?_
       refine o_skip (wA_off rfl rfl (by simp only [Tr.get_set, reduceIte, Nat.reduceEqDiff, Nat.reduceAdd, g7, g11, g15] <;> rfl)) rfl (by decide) ?_
       refine o_skip (wA_off rfl rfl (by simp only [Tr.get_set, reduceIte, Nat.reduceEqDiff, Nat.reduceAdd, g7, g11, g15] <;> rfl)) rfl (by decide) ?_
       refine o_skip (wA_off rfl rfl (by simp only [Tr.get_set, reduceIte, Nat.reduceEqDiff, Nat.reduceAdd, g7, g11, g15] <;> rfl)) rfl (by decide) ?_
       refine os (x_pick rfl (by simp only [Tr.get_set, reduceIte, Nat.reduceEqDiff, Nat.reduceAdd, ev_tmp, g7, g11, g15] <;> rfl) (by simp only [if_true, if_false, Bool.false_eq_true, ev_tmp, Tr.get_set, reduceIte, Nat.reduceEqDiff, Nat.reduceAdd, g7, g11, g15]; rfl)) ?_
       refine o_done ?_
       refine e_seq ?_
       refine k_condF (by simp only [Tr.get_set, reduceIte, Nat.reduceEqDiff, Nat.reduceAdd, ev_tmp, g7, g11, g15] <;> rfl) ?_
       refine k_skip ?_
       refine e_block ?_
       refine e_seq ?_
       refine k_region hP hC ?_
       refine os (x_move rfl za) ?_
       refine os (x_bin rfl za (by rfl) b_add) ?_
       refine os (x_assign rfl za) ?_
       refine o_done ?_
       refine e_loop ?_
       have hw2 : IntKind.i64.wrap (bits + 1) = bits + 1 := wr1 (by omega) (by omega)
       have hN : leastF L (bits + 1) = z := ls_no h0 hz.symm rfl hM (by first | (left; assumption) | (right; exact ⟨by omega, by first | (left; omega) | (right; assumption)⟩))
       refine ⟨IntKind.i64.wrap (bits + 1), ⟨v4, _, _, _, _, rfl, za, za, za, by rw [hw2]; omega, by rw [hw2]; omega, by omega, by rw [hw2]; omega, by omega, by omega, fun id hid => by (repeat (first | rw [Tr.get_set, if_neg (by omega)] | rw [hx4 _ (by omega)] | rw [hxS3 _ (by omega)] | rw [hx2 _ (by omega)] | rw [hxS1 _ (by omega)])) <;> first | rfl | assumption | (rw [Tr.get_set, if_pos (by omega)]; done) | (rw [Tr.get_set, if_pos (by omega)]; rfl), by rw [hw2]; exact (hN ▸ hB2)⟩, ?_⟩
       ·show (64 - IntKind.i64.wrap (bits + 1)).toNat < (64 - bits).toNat; rw [hw2]; omega
   ·have p5 := g5; try simp only [d1, d2, d3, d4, d5, d6, d7, d8, d9] at p5
    refine k_exit ?_
    refine e_seq_exit ?_
    refine e_loop_exit ?_
    refine e_block_eq ?_
    refine e_seq ?_
    refine k_seq ?_
    refine k_region hP hC ?_
    refine os (x_move rfl za) ?_
    refine os (x_assign rfl za) ?_
    refine os (x_assign rfl (by rfl)) ?_
    refine o_done ?_
    refine e_seq ?_
    refine k_ret ?_
    unfold val_least33 new_least33
    have hbi : bits = 64 := by omega
    subst hbi
    rw [(by assumption : possL L = true)]
    simp only [if_true]
    generalize leastF L 64 = z at *
    obtain ⟨zb, zl⟩ := z
    rcases hB with ⟨hz, hl, id, rfl, hown, h5, h6⟩ | ⟨hz, S, ha⟩
    ·have hz : zb = true := hz
     subst hz
     have hl : zl.length = 6 := hl
     unfold bestV bestN
     simp only [if_true]
     rw [hl]
     exact gives_mk2 (L := [0, id]) (w := 1) (.inr rfl) (hown.gcOk (by (repeat (first | rw [Tr.get_set, if_neg (by omega)] | rw [hx2 _ (by omega)] | rw [hxS1 _ (by omega)])) <;> first | rfl | assumption | (rw [Tr.get_set, if_pos (by omega)]; done) | (rw [Tr.get_set, if_pos (by omega)]; rfl)) (by omega) (by omega) (by omega)) (by simp only [Try.results19, resA, Tr.get_set, reduceIte, Nat.reduceEqDiff, Nat.reduceAdd, he2_0, he2_4, he2_5, g5] <;> rfl) (gcV_tup2 (gcV_slice (by show posOf [0, id] id = some 1; unfold posOf; rw [List.findIdx?_cons, if_neg (by simp; omega), List.findIdx?_cons, if_pos (by simp)]; rfl)) (gcV_free rfl)) (gcH_cons (gcO_old (by simp only [Bool.and_eq_true, Nat.blt_eq]; exact ⟨Nat.one_pos, by show 0 < _; omega⟩) (by (repeat (first | rw [Tr.get_set, if_neg (by omega)] | rw [hx2 _ (by omega)] | rw [hxS1 _ (by omega)])) <;> first | rfl | assumption | (rw [Tr.get_set, if_pos (by omega)]; done) | (rw [Tr.get_set, if_pos (by omega)]; rfl))) (gcH_cons (hown.gcO (by rfl) (gcD_free (ints_free1 _))) gcH_nil)) (Nat.ble_eq_true_of_le (by first | omega | (dsimp only; omega)))
    ·have hz : zb = false := hz
     subst hz
     unfold bestV bestN
     simp only [Bool.false_eq_true, if_false]
     have hbn := ha.bnd
     rcases ha.acc with ⟨e0, e1, e2⟩ | ⟨e0, e1, id, r, e2, hown, e3, e4⟩
     ·subst e2
      have e0 : zl.length = 0 := e0
      rw [e0, outV_0, outN_0]
      exact gives_mk2 (L := [0]) (w := 1) (.inr rfl) gcOk_one (by simp only [Try.results19, resA, Tr.get_set, reduceIte, Nat.reduceEqDiff, Nat.reduceAdd, he2_0, he2_4, he2_5, g5] <;> rfl) (by rfl) (gcH_cons (gcO_old (by simp only [Bool.and_eq_true, Nat.blt_eq]; exact ⟨Nat.one_pos, by show 0 < _; omega⟩) (by (repeat (first | rw [Tr.get_set, if_neg (by omega)] | rw [hx2 _ (by omega)] | rw [hxS1 _ (by omega)])) <;> first | rfl | assumption | (rw [Tr.get_set, if_pos (by omega)]; done) | (rw [Tr.get_set, if_pos (by omega)]; rfl))) gcH_nil) (Nat.ble_eq_true_of_le (by first | omega | (dsimp only; omega)))
     ·subst e2
      have e0 : 0 < zl.length := e0
      have f3 := hbn _ e3
      have f4 := hbn _ e4
      rw [outV_ne (by omega), outN_ne (by omega)]
      exact gives_mk2 (L := [0, id]) (w := 1) (.inr rfl) (hown.gcOk (by (repeat (first | rw [Tr.get_set, if_neg (by omega)] | rw [hx2 _ (by omega)] | rw [hxS1 _ (by omega)])) <;> first | rfl | assumption | (rw [Tr.get_set, if_pos (by omega)]; done) | (rw [Tr.get_set, if_pos (by omega)]; rfl)) (by omega) (by omega) (by omega)) (by simp only [Try.results19, resA, Tr.get_set, reduceIte, Nat.reduceEqDiff, Nat.reduceAdd, he2_0, he2_4, he2_5, g5] <;> rfl) (gcV_tup2 (gcV_slice (by show posOf [0, id] id = some 1; unfold posOf; rw [List.findIdx?_cons, if_neg (by simp; omega), List.findIdx?_cons, if_pos (by simp)]; rfl)) (gcV_free rfl)) (gcH_cons (gcO_old (by simp only [Bool.and_eq_true, Nat.blt_eq]; exact ⟨Nat.one_pos, by show 0 < _; omega⟩) (by (repeat (first | rw [Tr.get_set, if_neg (by omega)] | rw [hx2 _ (by omega)] | rw [hxS1 _ (by omega)])) <;> first | rfl | assumption | (rw [Tr.get_set, if_pos (by omega)]; done) | (rw [Tr.get_set, if_pos (by omega)]; rfl))) (gcH_cons (hown.gcO (by rfl) (gcD_free (ints_free1 _))) gcH_nil)) (Nat.ble_eq_true_of_le (by first | omega | (dsimp only; omega)))
theorem con_least33 : Con Try.prog 19 c_least33 := con_flat Try.func19 rfl fun us cs v new h => by
 unfold spec_least33 at h
 split at h
 case h_2 => cases h
 rename_i s_L c_L
 split at h
 case isFalse => cases h
 rename_i hc
 try simp only [Bool.and_eq_true] at hc
 obtain ⟨⟨q_L, r_L⟩, hok⟩ := hc
 cases h
 obtain ⟨h_L, e_L⟩ := isRows_cfs (by decide) r_L
 have hs_L := slOk_sl (n := (chunks 46 c_L).length) q_L (by decide) (rows_len (ks := T.K43) (by decide) r_L)
 have key := least33_m hs_L h_L hok
 have hrows : [(chunks T.K43.length c_L).flatten] = [c_L] := by rw [e_L]
 rw [← hrows]
 exact key
theorem least33_c {H : AH} {s_L : Value} {L : List (List Value)} (hr_L : Rd H 46 s_L L.length L.flatten) (h_L : cfs T.K43 L) (hok : ok_least33 L = true) : c_least33 [s_L] H = some (if possL L then .tuple ⟨[bestV H.next (leastF L 64), .int .i64 0]⟩ else .tuple ⟨[.slice none 0 0, .int .i64 1]⟩, addRows H (if possL L then bestN (leastF L 64) else [])) := by
 obtain ⟨u_L, a_L, b_L⟩ := hr_L 0
 have k_L := isRows_flat (by decide) h_L
 have k2_L : chunks 46 L.flatten = L := k_L.2
 exact flatC_at (v := val_least33 L) (new := new_least33 L) (cl_sl a_L cl_nil) (by simp only [spec_least33, sl_slOk b_L (cfs_len h_L), k_L.1, k2_L, hok, Bool.and_self, if_true]) (by unfold new_least33; split; exact best_free; rfl) (by unfold val_least33; split; exact gcV_tup2 best_gc (gcV_free rfl); exact gcV_tup2 (gcV_free rfl) (gcV_free rfl))
end Go.Proofs.Ytohhcnehcjpekaa
