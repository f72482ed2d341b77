/-
  Contracts: same findings, givers, leaning.
-/
import Derived.Test.YtohhcnehcjpekaaJLk
namespace Go.Proofs.Ytohhcnehcjpekaa
open Go.AM
set_option maxRecDepth 100000
set_option maxHeartbeats 1000000
set_option linter.unusedSimpArgs false
set_option linter.unusedVariables false
def ok_same (l : List Int) (m : List Int) (p : List Int) (q : List Int) : Bool := decide (l.length < 4611686018427387904) && decide (m.length < 4611686018427387904)
def val_same (l : List Int) (m : List Int) (p : List Int) (q : List Int) : Value := .bool (decide (l = p) && decide (m = q))
def new_same (l : List Int) (m : List Int) (p : List Int) (q : List Int) : List (List Value) := []
def spec_same : Go.AM.Spec := fun us cs => match us, cs with
 | [.agg ⟨[s_l, s_m]⟩, .agg ⟨[s_p, s_q]⟩], [c_l, c_m, c_p, c_q] => if slOk 0 1 c_l s_l && isInts c_l && slOk 1 1 c_m s_m && isInts c_m && slOk 2 1 c_p s_p && isInts c_p && slOk 3 1 c_q s_q && isInts c_q && ok_same (unints c_l) (unints c_m) (unints c_p) (unints c_q) then some (val_same (unints c_l) (unints c_m) (unints c_p) (unints c_q), new_same (unints c_l) (unints c_m) (unints c_p) (unints c_q)) else none
 | _, _ => none
def c_same := flatC [.ag [1, 1], .ag [1, 1]] spec_same
theorem same_m {s_l : Value} {s_m : Value} {s_p : Value} {s_q : Value} {l : List Int} {m : List Int} {p : List Int} {q : List Int} (hs_l : Sl 0 1 l.length s_l) (hs_m : Sl 1 1 m.length s_m) (hs_p : Sl 2 1 p.length s_p) (hs_q : Sl 3 1 q.length s_q) (hok : ok_same l m p q = true) : Meets Try.prog (.func 25) [.agg ⟨[s_l, s_m]⟩, .agg ⟨[s_p, s_q]⟩] (cheap [ints l, ints m, ints p, ints q]) (val_same l m p q) (rheap [ints l, ints m, ints p, ints q] (new_same l m p q)) := by
 have hP := Fits
 have hC : CallSound Try.prog (tabOf [(20, c_same01)]) := tab_sound (tab_cons con_same01 tab_end)
 simp only [ok_same, Bool.and_eq_true, decide_eq_true_eq] at hok
 obtain ⟨hb, hm⟩ := hok
 refine meets_start (sz := 17) hP Try.func25 rfl rfl zo (by simp only [Tr.ofList, roRows, Nat.zero_add, Nat.reduceAdd] <;> rfl) zl ?_
 refine k_seq ?_
 refine k_region hP hC ?_
 refine os (y_boxA rfl zt) ?_
 refine os (y_boxA rfl zt) ?_
 refine os (x_assign rfl (by rfl)) ?_
 refine o_done ?_
 refine e_seq ?_
 refine k_seq ?_
 refine k_region hP hC ?_
 refine os (x_field (off' := 0) rfl zt Try.underlying56 rfl T.s22 rfl) ?_
 refine os (x_load1 rfl zt T.g22 (by first | exact l_boxI (whole_row zh rfl) (by (first | assumption | (exact cf_nth zs ow ow))) rfl | exact l_boxS (whole_row zh rfl) (by (first | assumption | (exact cf_nth zs ow ow))) rfl | (simp only [loadC, AH.fam, Tr.get_set, reduceIte, Nat.reduceEqDiff, Nat.reduceAdd, Fam.rb, List.drop_zero, List.drop_succ_cons, List.take_succ_cons, List.take_zero, List.length_cons, List.length_nil, Nat.zero_le, Nat.reduceLeDiff, and_self, true_and] <;> rfl))) ?_
 refine os (x_field (off' := 0) rfl zt Try.underlying59 rfl T.s22 rfl) ?_
 refine os (x_load1 rfl zt T.g22 (by first | exact l_boxI (whole_row zh rfl) (by (first | assumption | (exact cf_nth zs ow ow))) rfl | exact l_boxS (whole_row zh rfl) (by (first | assumption | (exact cf_nth zs ow ow))) rfl | (simp only [loadC, AH.fam, Tr.get_set, reduceIte, Nat.reduceEqDiff, Nat.reduceAdd, Fam.rb, List.drop_zero, List.drop_succ_cons, List.take_succ_cons, List.take_zero, List.length_cons, List.length_nil, Nat.zero_le, Nat.reduceLeDiff, and_self, true_and] <;> rfl))) ?_
 refine o_call0 (wA_none rfl) rfl rfl rfl zv zd ?_
 refine ⟨_, _, (tab_hit.trans (same01_c (rd_sl hs_l zd (whole_row zh rfl) (by rw [ints_len, Nat.mul_one]) (ints_free0 _)) (rd_sl hs_p zd (whole_row zh rfl) (by rw [ints_len, Nat.mul_one]) (ints_free0 _)) (by rw [ok_same01, decide_eq_true hb]))), ?_⟩
 refine os (x_move rfl zt) ?_
 refine o_guard rfl rfl zh (fun g2 => ?_) (fun g2 => ?_)
 ·have p2 := g2; try simp only [d1, d2, d3, d4, d5, d6, d7, d8, d9] at p2
  refine o_step (wA_on rfl rfl zg) rfl (x_field (off' := 1) rfl zt Try.underlying56 rfl T.s22 rfl) zd ?_
  refine o_step (wA_on rfl rfl zg) rfl (x_load1 rfl zt T.g22 (by first | exact l_boxI (whole_row zh rfl) (by (first | assumption | (exact cf_nth zs ow ow))) rfl | exact l_boxS (whole_row zh rfl) (by (first | assumption | (exact cf_nth zs ow ow))) rfl | (simp only [loadC, AH.fam, Tr.get_set, reduceIte, Nat.reduceEqDiff, Nat.reduceAdd, Fam.rb, List.drop_zero, List.drop_succ_cons, List.take_succ_cons, List.take_zero, List.length_cons, List.length_nil, Nat.zero_le, Nat.reduceLeDiff, and_self, true_and] <;> rfl))) zd ?_
  refine o_step (wA_on rfl rfl zg) rfl (x_field (off' := 1) rfl zt Try.underlying59 rfl T.s22 rfl) zd ?_
  refine o_step (wA_on rfl rfl zg) rfl (x_load1 rfl zt T.g22 (by first | exact l_boxI (whole_row zh rfl) (by (first | assumption | (exact cf_nth zs ow ow))) rfl | exact l_boxS (whole_row zh rfl) (by (first | assumption | (exact cf_nth zs ow ow))) rfl | (simp only [loadC, AH.fam, Tr.get_set, reduceIte, Nat.reduceEqDiff, Nat.reduceAdd, Fam.rb, List.drop_zero, List.drop_succ_cons, List.take_succ_cons, List.take_zero, List.length_cons, List.length_nil, Nat.zero_le, Nat.reduceLeDiff, and_self, true_and] <;> rfl))) zd ?_
  refine o_call0 (wA_on rfl rfl zg) rfl rfl rfl zv zd ?_
  refine ⟨_, _, (tab_hit.trans (same01_c (rd_sl hs_m zd (whole_row zh rfl) (by rw [ints_len, Nat.mul_one]) (ints_free0 _)) (rd_sl hs_q zd (whole_row zh rfl) (by rw [ints_len, Nat.mul_one]) (ints_free0 _)) (by rw [ok_same01, decide_eq_true hm]))), ?_⟩
  refine os (x_pick rfl zg zb) ?_
  refine os (x_assign rfl zt) ?_
  refine o_done ?_
  refine e_seq ?_
  refine k_ret ?_
  refine gives_mk (L := [0, 1, 2, 3]) (slots := [4]) (w := 4) (.inr rfl) zr (gcVs_cons zh (gcV_free rfl) gcVs_nil) (gcH_cons (gcO_old (by rfl) zh) (gcH_cons (gcO_old (by rfl) zh) (gcH_cons (gcO_old (by rfl) zh) (gcH_cons (gcO_old (by rfl) zh) gcH_nil)))) zr (by simp only [Try.results25, resA, cst, mkE, Tr.get_set, reduceIte, Nat.reduceEqDiff, Nat.reduceAdd] <;> rfl) ?_
  simp only [one, val_same, Bool.true_and, Bool.false_and, g2]
 ·have p2 := g2; try simp only [d1, d2, d3, d4, d5, d6, d7, d8, d9] at p2
  refine o_skip (wA_off rfl rfl zg) rfl zd ?_
  refine o_skip (wA_off rfl rfl zg) rfl zd ?_
  refine o_skip (wA_off rfl rfl zg) rfl zd ?_
  refine o_skip (wA_off rfl rfl zg) rfl zd ?_
  refine o_skip (wA_off rfl rfl zg) rfl zd ?_
  refine os (x_pick rfl zg zb) ?_
  refine os (x_assign rfl zt) ?_
  refine o_done ?_
  refine e_seq ?_
  refine k_ret ?_
  refine gives_mk (L := [0, 1, 2, 3]) (slots := [4]) (w := 4) (.inr rfl) zr (gcVs_cons zh (gcV_free rfl) gcVs_nil) (gcH_cons (gcO_old (by rfl) zh) (gcH_cons (gcO_old (by rfl) zh) (gcH_cons (gcO_old (by rfl) zh) (gcH_cons (gcO_old (by rfl) zh) gcH_nil)))) zr (by simp only [Try.results25, resA, cst, mkE, Tr.get_set, reduceIte, Nat.reduceEqDiff, Nat.reduceAdd] <;> rfl) ?_
  simp only [one, val_same, Bool.true_and, Bool.false_and, g2]
theorem con_same : Con Try.prog 25 c_same := con_flat Try.func25 rfl fun us cs v new h => by
 unfold spec_same at h
 split at h
 case h_2 => cases h
 rename_i s_l s_m s_p s_q c_l c_m c_p c_q
 split at h
 case isFalse => cases h
 rename_i hc
 try simp only [Bool.and_eq_true] at hc
 obtain ⟨⟨⟨⟨⟨⟨⟨⟨q_l, r_l⟩, q_m⟩, r_m⟩, q_p⟩, r_p⟩, q_q⟩, r_q⟩, hok⟩ := hc
 cases h
 have e_l := ints_unints r_l
 have hs_l := slOk_sl (n := (unints c_l).length) q_l zd (by rw [← ints_len, e_l, Nat.mul_one])
 have e_m := ints_unints r_m
 have hs_m := slOk_sl (n := (unints c_m).length) q_m zd (by rw [← ints_len, e_m, Nat.mul_one])
 have e_p := ints_unints r_p
 have hs_p := slOk_sl (n := (unints c_p).length) q_p zd (by rw [← ints_len, e_p, Nat.mul_one])
 have e_q := ints_unints r_q
 have hs_q := slOk_sl (n := (unints c_q).length) q_q zd (by rw [← ints_len, e_q, Nat.mul_one])
 have key := same_m hs_l hs_m hs_p hs_q hok
 have hrows : [ints (unints c_l), ints (unints c_m), ints (unints c_p), ints (unints c_q)] = [c_l, c_m, c_p, c_q] := by rw [e_l, e_m, e_p, e_q]
 rw [← hrows]
 exact key
theorem same_c {H : AH} {s_l : Value} {s_m : Value} {s_p : Value} {s_q : Value} {l : List Int} {m : List Int} {p : List Int} {q : List Int} (hr_l : Rd H 1 s_l l.length (ints l)) (hr_m : Rd H 1 s_m m.length (ints m)) (hr_p : Rd H 1 s_p p.length (ints p)) (hr_q : Rd H 1 s_q q.length (ints q)) (hok : ok_same l m p q = true) : c_same [.agg ⟨[s_l, s_m]⟩, .agg ⟨[s_p, s_q]⟩] H = some (.bool (decide (l = p) && decide (m = q)), H) := by
 obtain ⟨u_l, a_l, b_l⟩ := hr_l 0
 obtain ⟨u_m, a_m, b_m⟩ := hr_m 1
 obtain ⟨u_p, a_p, b_p⟩ := hr_p 2
 obtain ⟨u_q, a_q, b_q⟩ := hr_q 3
 exact flatC_at (v := val_same l m p q) (new := new_same l m p q) (cl_ag2 a_l a_m (cl_ag2 a_p a_q cl_nil)) (by simp only [spec_same, sl_slOk b_l (by rw [ints_len, Nat.mul_one]), isInts_ints, unints_ints, sl_slOk b_m (by rw [ints_len, Nat.mul_one]), sl_slOk b_p (by rw [ints_len, Nat.mul_one]), sl_slOk b_q (by rw [ints_len, Nat.mul_one]), hok, Bool.and_self, if_true]) (rfl) (gcV_free rfl)
def ok_leans33 (L : List (List Value)) (u : List Int) (w : List Int) (a : List Int) : Bool := decide (L.length ≤ 1000) && decide (u.length ≤ 17592186044416) && decide (w.length < 4611686018427387904)
def val_leans33 (L : List (List Value)) (u : List Int) (w : List Int) (a : List Int) : Value := if lnOk L u then .tuple ⟨[outV 4 1 (lnF L w u).length, .int .i64 0]⟩ else .tuple ⟨[.slice none 0 0, .int .i64 5]⟩
def new_leans33 (L : List (List Value)) (u : List Int) (w : List Int) (a : List Int) : List (List Value) := if lnOk L u then outN (lnF L w u).length (ints (lnF L w u)) else []
def spec_leans33 : Go.AM.Spec := fun us cs => match us, cs with
 | [s_L, s_u, .agg ⟨[s_w, s_a]⟩], [c_L, c_u, c_w, c_a] => if slOk 0 46 c_L s_L && isRows T.K43 c_L && slOk 1 1 c_u s_u && isInts c_u && slOk 2 1 c_w s_w && isInts c_w && slOk 3 1 c_a s_a && isInts c_a && ok_leans33 (chunks 46 c_L) (unints c_u) (unints c_w) (unints c_a) then some (val_leans33 (chunks 46 c_L) (unints c_u) (unints c_w) (unints c_a), new_leans33 (chunks 46 c_L) (unints c_u) (unints c_w) (unints c_a)) else none
 | _, _ => none
def c_leans33 := flatC [.sl 46, .sl 1, .ag [1, 1]] spec_leans33
theorem leans33_m {s_L : Value} {s_u : Value} {s_w : Value} {s_a : Value} {L : List (List Value)} {u : List Int} {w : List Int} {a : List Int} (hs_L : Sl 0 46 L.length s_L) (h_L : cfs T.K43 L) (hs_u : Sl 1 1 u.length s_u) (hs_w : Sl 2 1 w.length s_w) (hs_a : Sl 3 1 a.length s_a) (hok : ok_leans33 L u w a = true) : Meets Try.prog (.func 31) [s_L, s_u, .agg ⟨[s_w, s_a]⟩] (cheap [L.flatten, ints u, ints w, ints a]) (val_leans33 L u w a) (rheap [L.flatten, ints u, ints w, ints a] (new_leans33 L u w a)) := by
 have hP := Fits
 have hC : CallSound Try.prog (tabOf [(32, c_in)]) := tab_sound (tab_cons con_in tab_end)
 simp only [ok_leans33, Bool.and_eq_true, decide_eq_true_eq] at hok
 obtain ⟨⟨hb, hu⟩, hw⟩ := hok
 refine meets_start (sz := 49) hP Try.func31 rfl rfl zo (by simp only [Tr.ofList, roRows, Nat.zero_add, Nat.reduceAdd] <;> rfl) zl ?_
 refine k_seq ?_
 refine k_region hP hC ?_
 refine os (y_boxA rfl zt) ?_
 refine os (x_assign rfl (by rfl)) ?_
 refine os (x_assign rfl (by rfl)) ?_
 refine o_done ?_
 refine e_seq ?_
 refine k_seq ?_
 refine k_region hP hC ?_
 refine os (x_assign rfl (by rfl)) ?_
 refine o_done ?_
 refine e_seq ?_
 refine k_seq ?_
 refine k_seq ?_
 refine k_region hP hC ?_
 refine os (x_assign rfl (by rfl)) ?_
 refine o_done ?_
 refine e_seq ?_
 refine k_block ?_
 refine k_loop (α := Bool × Int × List Int) (fun z => match z with | (false, i, acc) => cst 49 [0, 1, 5, 8, 9] [s_L, s_u, .pointer (some ⟨4, 0, none⟩), .slice none 0 0, .int .i64 i] [.row L.flatten 0 BIG true L.flatten.length, .row (ints u) 1 BIG true (ints u).length, .row (ints w) 2 BIG true (ints w).length, .row (ints a) 3 BIG true (ints a).length, .row [s_w, s_a] 4 BIG false 2] 4 | (true, i, acc) => cst 49 [0, 1, 5, 8, 9] [s_L, s_u, .pointer (some ⟨4, 0, none⟩), .slice (some ⟨5, 0, none⟩) acc.length (acc.length + 1), .int .i64 i] [.row L.flatten 0 BIG true L.flatten.length, .row (ints u) 1 BIG true (ints u).length, .row (ints w) 2 BIG true (ints w).length, .row (ints a) 3 BIG true (ints a).length, .row [s_w, s_a] 4 BIG false 2, .row (ints acc) 5 BIG false (ints acc).length] 4) (fun z => match z with | (b, i, acc) => 0 ≤ i ∧ i ≤ u.length ∧ acc = lnF L w (u.take i.toNat) ∧ acc.isEmpty = !b ∧ lnOk L (u.take i.toNat) = true) (fun z => match z with | (_, i, _) => (u.length - i).toNat) (false, 0, []) (to_mk (L := [0, 1, 2, 3, 4]) (slots := [0, 1, 5, 8, 9]) (w := 4) zr (gcVs_cons zh (gcV_sl hs_L rfl) (gcVs_cons zh (gcV_sl hs_u rfl) (gcVs_cons zh (gcV_ptr rfl) (gcVs_cons zh (gcV_free rfl) (gcVs_cons zh (gcV_free rfl) gcVs_nil))))) (gcH_cons (gcO_old (by rfl) zh) (gcH_cons (gcO_old (by rfl) zh) (gcH_cons (gcO_old (by rfl) zh) (gcH_cons (gcO_old (by rfl) zh) (gcH_cons (gcO_rowE (by rfl) zh (gcD_cons (gcV_sl hs_w rfl) (gcD_cons (gcV_sl hs_a rfl) gcD_nil)) rfl) gcH_nil))))) zr) ⟨by omega, by omega, rfl, rfl, rfl⟩ ?_
 rintro ⟨_ | _, i, acc⟩ ⟨h0, h1, h2, h3, h4⟩
 ·skip
  have hacc : acc = [] := List.isEmpty_iff.1 h3
  refine k_cst zm zo zl ?_
  refine k_seq ?_
  refine k_seq ?_
  refine k_region hP hC ?_
  refine os (x_move rfl zt) ?_
  refine os (x_move rfl zt) ?_
  refine os (x_lenS hs_u rfl rfl zv rfl Try.underlying22) ?_
  refine os (x_bin rfl zt zt b_lss) ?_
  refine o_done ?_
  refine e_seq ?_
  refine k_cond zt (fun g2 => ?_) (fun g2 => ?_)
  ·have p2 := g2; try simp only [d1, d2, d3, d4, d5, d6, d7, d8, d9] at p2
   refine k_skip ?_
   refine e_seq ?_
   refine k_seq ?_
   refine k_block ?_
   refine k_seq ?_
   refine k_seq ?_
   refine k_region hP hC ?_
   refine os (x_move rfl zt) ?_
   refine os (x_move rfl zt) ?_
   refine os (x_indexS hs_u rfl zt zt Try.underlying22 T.s3 ow ow) ?_
   refine os (x_load1 rfl zt T.g3 (by first | exact l_ints (whole_row zh rfl) ow ow | exact l_partI0 (whole_row zh rfl) zs rfl ow ow rfl)) ?_
   refine os (x_bin rfl zt (by rfl) b_lss) ?_
   refine os (x_move rfl zt) ?_
   refine o_guard rfl rfl zh (fun g4 => ?_) (fun g4 => ?_)
   ·have p4 := g4; try simp only [d1, d2, d3, d4, d5, d6, d7, d8, d9] at p4
    refine o_skip (wA_off rfl rfl zg) rfl zd ?_
    refine o_skip (wA_off rfl rfl zg) rfl zd ?_
    refine o_skip (wA_off rfl rfl zg) rfl zd ?_
    refine o_skip (wA_off rfl rfl zg) rfl zd ?_
    refine o_skip (wA_off rfl rfl zg) rfl zd ?_
    refine o_skip (wA_off rfl rfl zg) rfl zd ?_
    refine o_skip (wA_off rfl rfl zg) rfl zd ?_
    refine os (x_pick rfl zg zb) ?_
    refine o_done ?_
    refine e_seq ?_
    refine k_condT zg ?_
    refine k_seq ?_
    refine k_region hP hC ?_
    refine os (x_assign rfl (by rfl)) ?_
    refine os (x_assign rfl (by rfl)) ?_
    refine o_done ?_
    refine e_seq ?_
    refine k_ret ?_
    refine e_seq_ret ?_
    refine e_block_ret ?_
    refine e_seq_ret ?_
    refine e_loop_ret ?_
    refine e_block_ret ?_
    refine e_seq_ret ?_
    have hno : lnOk L u = false := lnOk_no h0 ow (by first | exact .inl zs | exact .inr zs)
    unfold val_leans33 new_leans33
    rw [hno]
    simp only [Bool.false_eq_true, if_false]
    refine gives_mk (L := [0, 1, 2, 3]) (slots := [6, 7]) (w := 4) (.inr rfl) zr (gcVs_cons zh (gcV_free rfl) (gcVs_cons zh (gcV_free rfl) gcVs_nil)) (gcH_cons (gcO_old (by rfl) zh) (gcH_cons (gcO_old (by rfl) zh) (gcH_cons (gcO_old (by rfl) zh) (gcH_cons (gcO_old (by rfl) zh) gcH_nil)))) zr (by simp only [Try.results31, resA, cst, mkE, Tr.get_set, reduceIte, Nat.reduceEqDiff, Nat.reduceAdd] <;> rfl) ?_
    rfl
   ·have p4 := g4; try simp only [d1, d2, d3, d4, d5, d6, d7, d8, d9] at p4
    refine o_step (wA_on rfl rfl zg) rfl (x_move rfl zt) zd ?_
    refine o_step (wA_on rfl rfl zg) rfl (x_move rfl zt) zd ?_
    refine o_step (wA_on rfl rfl zg) rfl (x_indexS hs_u rfl zt zt Try.underlying22 T.s3 ow ow) zd ?_
    refine o_step (wA_on rfl rfl zg) rfl (x_load1 rfl zt T.g3 (by first | exact l_ints (whole_row zh rfl) ow ow | exact l_partI0 (whole_row zh rfl) zs rfl ow ow rfl)) zd ?_
    refine o_step (wA_on rfl rfl zg) rfl (x_move rfl zt) zd ?_
    refine o_step (wA_on rfl rfl zg) rfl (x_lenS hs_L rfl rfl zv rfl Try.underlying23) zd ?_
    refine o_step (wA_on rfl rfl zg) rfl (x_bin rfl zt zt b_geq) zd ?_
    refine os (x_pick rfl zg zb) ?_
    refine o_done ?_
    refine e_seq ?_
    refine k_cond (by simp only [Tr.get_set, reduceIte, Nat.reduceEqDiff, Nat.reduceAdd, ev_tmp, g2, g4] <;> rfl) (fun g6 => ?_) (fun g6 => ?_)
    ·have p6 := g6; try simp only [d1, d2, d3, d4, d5, d6, d7, d8, d9] at p6
     refine k_seq ?_
     refine k_region hP hC ?_
     refine os (x_assign rfl (by rfl)) ?_
     refine os (x_assign rfl (by rfl)) ?_
     refine o_done ?_
     refine e_seq ?_
     refine k_ret ?_
     refine e_seq_ret ?_
     refine e_block_ret ?_
     refine e_seq_ret ?_
     refine e_loop_ret ?_
     refine e_block_ret ?_
     refine e_seq_ret ?_
     have hno : lnOk L u = false := lnOk_no h0 ow (by first | exact .inl zs | exact .inr zs)
     unfold val_leans33 new_leans33
     rw [hno]
     simp only [Bool.false_eq_true, if_false]
     refine gives_mk (L := [0, 1, 2, 3]) (slots := [6, 7]) (w := 4) (.inr rfl) zr (gcVs_cons zh (gcV_free rfl) (gcVs_cons zh (gcV_free rfl) gcVs_nil)) (gcH_cons (gcO_old (by rfl) zh) (gcH_cons (gcO_old (by rfl) zh) (gcH_cons (gcO_old (by rfl) zh) (gcH_cons (gcO_old (by rfl) zh) gcH_nil)))) zr (by simp only [Try.results31, resA, cst, mkE, Tr.get_set, reduceIte, Nat.reduceEqDiff, Nat.reduceAdd] <;> rfl) ?_
     rfl
    ·have p6 := g6; try simp only [d1, d2, d3, d4, d5, d6, d7, d8, d9] at p6
     refine k_skip ?_
     refine e_seq ?_
     refine k_seq ?_
     refine k_draw hP hC zr ?_
     refine ds (x_field (off' := 0) rfl zt Try.underlying59 rfl T.s22 rfl) ?_
     refine ds (x_load1 rfl zt T.g22 (by first | exact l_boxI (whole_row zh rfl) (by (first | assumption | (exact cf_nth zs ow ow))) rfl | exact l_boxS (whole_row zh rfl) (by (first | assumption | (exact cf_nth zs ow ow))) rfl | (simp only [loadC, AH.fam, Tr.get_set, reduceIte, Nat.reduceEqDiff, Nat.reduceAdd, Fam.rb, List.drop_zero, List.drop_succ_cons, List.take_succ_cons, List.take_zero, List.length_cons, List.length_nil, Nat.zero_le, Nat.reduceLeDiff, and_self, true_and] <;> rfl))) ?_
     refine ds (x_move rfl zt) ?_
     refine ds (x_move rfl zt) ?_
     refine ds (x_move rfl zt) ?_
     refine ds (x_indexS hs_u rfl zt zt Try.underlying22 T.s3 ow ow) ?_
     refine ds (x_load1 rfl zt T.g3 (by first | exact l_ints (whole_row zh rfl) ow ow | exact l_partI0 (whole_row zh rfl) zs rfl ow ow rfl)) ?_
     refine ds (x_indexS hs_L rfl zt zt Try.underlying23 T.s43 ow ow) ?_
     refine ds (x_field0 rfl zt Try.underlying43 rfl T.s3 rfl) ?_
     refine ds (x_load1 rfl zt T.g3 (l_partI0 (K := 46) (whole_row zh rfl) zs rfl ow ow rfl)) ?_
     refine d_call0 (wA_none rfl) rfl rfl rfl zv zd ?_
     refine ⟨_, _, _, _, (tab_hit.trans (in_c (rd_sl hs_w zd (whole_row zh rfl) (by rw [ints_len, Nat.mul_one]) (ints_free0 _)) (by rw [ok_in, decide_eq_true hw]))), ?_⟩
     refine d_done ⟨by kernel_rfl, ?_⟩
     refine e_seq ?_
     refine k_cond (by simp only [Tr.get_set, reduceIte, Nat.reduceEqDiff, Nat.reduceAdd, ev_tmp, g2, g4, g6] <;> rfl) (fun g8 => ?_) (fun g8 => ?_)
     ·have p8 := g8; try simp only [d1, d2, d3, d4, d5, d6, d7, d8, d9] at p8
      refine k_region hP hC ?_
      refine os (x_move rfl zt) ?_
      refine os (x_move rfl zt) ?_
      refine os (x_move rfl zt) ?_
      refine os (x_indexS hs_u rfl zt zt Try.underlying22 T.s3 ow ow) ?_
      refine os (x_load1 rfl zt T.g3 (by first | exact l_ints (whole_row zh rfl) ow ow | exact l_partI0 (whole_row zh rfl) zs rfl ow ow rfl)) ?_
      refine os (y_bsliceV rfl zt rfl Try.underlying22 T.s3 T.z3 rfl rfl) ?_
      refine os (x_append rfl rfl zv rfl rfl zr (cells_row Try.underlying22 T.s3 (l_all (whole_row zh rfl) rfl)) (ya_nil Try.underlying22 T.i22 zd rfl zd zd rfl zd)) ?_
      refine os (x_assign rfl zt) ?_
      refine o_done ?_
      refine e_block ?_
      refine e_seq ?_
      refine k_region hP hC ?_
      refine os (x_move rfl zt) ?_
      refine os (x_bin rfl zt (by rfl) b_add) ?_
      refine os (x_assign rfl zt) ?_
      refine o_done ?_
      refine e_loop ?_
      refine ⟨(true, IntKind.i64.wrap (i + 1), [ith u i]), (to_mk (L := [0, 1, 2, 3, 4, 6]) (slots := [0, 1, 5, 8, 9]) (w := 4) zr (gcVs_cons zh (gcV_sl hs_L rfl) (gcVs_cons zh (gcV_sl hs_u rfl) (gcVs_cons zh (gcV_ptr rfl) (gcVs_cons zh (gcV_slice rfl) (gcVs_cons zh (gcV_free rfl) gcVs_nil))))) (gcH_cons (gcO_old (by rfl) zh) (gcH_cons (gcO_old (by rfl) zh) (gcH_cons (gcO_old (by rfl) zh) (gcH_cons (gcO_old (by rfl) zh) (gcH_cons (gcO_rowE (by rfl) zh (gcD_cons (gcV_sl hs_w rfl) (gcD_cons (gcV_sl hs_a rfl) gcD_nil)) rfl) (gcH_cons (gcO_rowE (by rfl) zh (gcD_free rfl) (by simp only [ints_append, ints_one])) gcH_nil)))))) zr), ?_, ?_⟩
      ·rw [wr1 ow ow]; refine ⟨by omega, by omega, ?_, ?_, ?_⟩
       ·rw [show lnF L w (u.take (i + 1).toNat) = lnF L w (u.take i.toNat) ++ [ith u i] from filterI_hit h0 ow zs, ← h2]; rw [hacc]; rfl
       ·rfl
       ·exact lnOk_next h0 ow h4 ow ow
      ·show (u.length - IntKind.i64.wrap (i + 1)).toNat < (u.length - i).toNat; rw [wr1 ow ow]; omega
     ·have p8 := g8; try simp only [d1, d2, d3, d4, d5, d6, d7, d8, d9] at p8
      refine k_skip ?_
      refine e_block ?_
      refine e_seq ?_
      refine k_region hP hC ?_
      refine os (x_move rfl zt) ?_
      refine os (x_bin rfl zt (by rfl) b_add) ?_
      refine os (x_assign rfl zt) ?_
      refine o_done ?_
      refine e_loop ?_
      refine ⟨(false, IntKind.i64.wrap (i + 1), acc), (to_mk (L := [0, 1, 2, 3, 4]) (slots := [0, 1, 5, 8, 9]) (w := 4) zr (gcVs_cons zh (gcV_sl hs_L rfl) (gcVs_cons zh (gcV_sl hs_u rfl) (gcVs_cons zh (gcV_ptr rfl) (gcVs_cons zh (gcV_free rfl) (gcVs_cons zh (gcV_free rfl) gcVs_nil))))) (gcH_cons (gcO_old (by rfl) zh) (gcH_cons (gcO_old (by rfl) zh) (gcH_cons (gcO_old (by rfl) zh) (gcH_cons (gcO_old (by rfl) zh) (gcH_cons (gcO_rowE (by rfl) zh (gcD_cons (gcV_sl hs_w rfl) (gcD_cons (gcV_sl hs_a rfl) gcD_nil)) rfl) gcH_nil))))) zr), ?_, ?_⟩
      ·rw [wr1 ow ow]; refine ⟨by omega, by omega, ?_, ?_, ?_⟩
       ·rw [show lnF L w (u.take (i + 1).toNat) = lnF L w (u.take i.toNat) from filterI_skip h0 ow zs]; exact h2
       ·exact h3
       ·exact lnOk_next h0 ow h4 ow ow
      ·show (u.length - IntKind.i64.wrap (i + 1)).toNat < (u.length - i).toNat; rw [wr1 ow ow]; omega
  ·have p2 := g2; try simp only [d1, d2, d3, d4, d5, d6, d7, d8, d9] at p2
   refine k_exit ?_
   refine e_seq_exit ?_
   refine e_loop_exit ?_
   refine e_block_eq ?_
   refine e_seq ?_
   refine k_seq ?_
   refine k_region hP hC ?_
   refine os (x_move rfl zt) ?_
   refine os (x_assign rfl zt) ?_
   refine os (x_assign rfl (by rfl)) ?_
   refine o_done ?_
   refine e_seq ?_
   refine k_ret ?_
   rw [take_end ow] at h2 h4
   unfold val_leans33 new_leans33
   rw [h4]
   simp only [if_true]
   rw [← h2]
   rw [hacc]
   refine gives_mk (L := [0, 1, 2, 3]) (slots := [6, 7]) (w := 4) (.inr rfl) zr (gcVs_cons zh (gcV_free rfl) (gcVs_cons zh (gcV_free rfl) gcVs_nil)) (gcH_cons (gcO_old (by rfl) zh) (gcH_cons (gcO_old (by rfl) zh) (gcH_cons (gcO_old (by rfl) zh) (gcH_cons (gcO_old (by rfl) zh) gcH_nil)))) zr (by simp only [Try.results31, resA, cst, mkE, Tr.get_set, reduceIte, Nat.reduceEqDiff, Nat.reduceAdd] <;> rfl) ?_
   rfl
 ·skip
  have hal : (acc.length : Int) ≤ i := by rw [h2]; exact filterI_len2 h0
  refine k_cst zm zo zl ?_
  refine k_seq ?_
  refine k_seq ?_
  refine k_region hP hC ?_
  refine os (x_move rfl zt) ?_
  refine os (x_move rfl zt) ?_
  refine os (x_lenS hs_u rfl rfl zv rfl Try.underlying22) ?_
  refine os (x_bin rfl zt zt b_lss) ?_
  refine o_done ?_
  refine e_seq ?_
  refine k_cond zt (fun g10 => ?_) (fun g10 => ?_)
  ·have p10 := g10; try simp only [d1, d2, d3, d4, d5, d6, d7, d8, d9] at p10
   refine k_skip ?_
   refine e_seq ?_
   refine k_seq ?_
   refine k_block ?_
   refine k_seq ?_
   refine k_seq ?_
   refine k_region hP hC ?_
   refine os (x_move rfl zt) ?_
   refine os (x_move rfl zt) ?_
   refine os (x_indexS hs_u rfl zt zt Try.underlying22 T.s3 ow ow) ?_
   refine os (x_load1 rfl zt T.g3 (by first | exact l_ints (whole_row zh rfl) ow ow | exact l_partI0 (whole_row zh rfl) zs rfl ow ow rfl)) ?_
   refine os (x_bin rfl zt (by rfl) b_lss) ?_
   refine os (x_move rfl zt) ?_
   refine o_guard rfl rfl zh (fun g12 => ?_) (fun g12 => ?_)
   ·have p12 := g12; try simp only [d1, d2, d3, d4, d5, d6, d7, d8, d9] at p12
    refine o_skip (wA_off rfl rfl zg) rfl zd ?_
    refine o_skip (wA_off rfl rfl zg) rfl zd ?_
    refine o_skip (wA_off rfl rfl zg) rfl zd ?_
    refine o_skip (wA_off rfl rfl zg) rfl zd ?_
    refine o_skip (wA_off rfl rfl zg) rfl zd ?_
    refine o_skip (wA_off rfl rfl zg) rfl zd ?_
    refine o_skip (wA_off rfl rfl zg) rfl zd ?_
    refine os (x_pick rfl zg zb) ?_
    refine o_done ?_
    refine e_seq ?_
    refine k_condT zg ?_
    refine k_seq ?_
    refine k_region hP hC ?_
    refine os (x_assign rfl (by rfl)) ?_
    refine os (x_assign rfl (by rfl)) ?_
    refine o_done ?_
    refine e_seq ?_
    refine k_ret ?_
    refine e_seq_ret ?_
    refine e_block_ret ?_
    refine e_seq_ret ?_
    refine e_loop_ret ?_
    refine e_block_ret ?_
    refine e_seq_ret ?_
    have hno : lnOk L u = false := lnOk_no h0 ow (by first | exact .inl zs | exact .inr zs)
    unfold val_leans33 new_leans33
    rw [hno]
    simp only [Bool.false_eq_true, if_false]
    refine gives_mk (L := [0, 1, 2, 3]) (slots := [6, 7]) (w := 4) (.inr rfl) zr (gcVs_cons zh (gcV_free rfl) (gcVs_cons zh (gcV_free rfl) gcVs_nil)) (gcH_cons (gcO_old (by rfl) zh) (gcH_cons (gcO_old (by rfl) zh) (gcH_cons (gcO_old (by rfl) zh) (gcH_cons (gcO_old (by rfl) zh) gcH_nil)))) zr (by simp only [Try.results31, resA, cst, mkE, Tr.get_set, reduceIte, Nat.reduceEqDiff, Nat.reduceAdd] <;> rfl) ?_
    rfl
   ·have p12 := g12; try simp only [d1, d2, d3, d4, d5, d6, d7, d8, d9] at p12
    refine o_step (wA_on rfl rfl zg) rfl (x_move rfl zt) zd ?_
    refine o_step (wA_on rfl rfl zg) rfl (x_move rfl zt) zd ?_
    refine o_step (wA_on rfl rfl zg) rfl (x_indexS hs_u rfl zt zt Try.underlying22 T.s3 ow ow) zd ?_
    refine o_step (wA_on rfl rfl zg) rfl (x_load1 rfl zt T.g3 (by first | exact l_ints (whole_row zh rfl) ow ow | exact l_partI0 (whole_row zh rfl) zs rfl ow ow rfl)) zd ?_
    refine o_step (wA_on rfl rfl zg) rfl (x_move rfl zt) zd ?_
    refine o_step (wA_on rfl rfl zg) rfl (x_lenS hs_L rfl rfl zv rfl Try.underlying23) zd ?_
    refine o_step (wA_on rfl rfl zg) rfl (x_bin rfl zt zt b_geq) zd ?_
    refine os (x_pick rfl zg zb) ?_
    refine o_done ?_
    refine e_seq ?_
    refine k_cond (by simp only [Tr.get_set, reduceIte, Nat.reduceEqDiff, Nat.reduceAdd, ev_tmp, g10, g12] <;> rfl) (fun g14 => ?_) (fun g14 => ?_)
    ·have p14 := g14; try simp only [d1, d2, d3, d4, d5, d6, d7, d8, d9] at p14
     refine k_seq ?_
     refine k_region hP hC ?_
     refine os (x_assign rfl (by rfl)) ?_
     refine os (x_assign rfl (by rfl)) ?_
     refine o_done ?_
     refine e_seq ?_
     refine k_ret ?_
     refine e_seq_ret ?_
     refine e_block_ret ?_
     refine e_seq_ret ?_
     refine e_loop_ret ?_
     refine e_block_ret ?_
     refine e_seq_ret ?_
     have hno : lnOk L u = false := lnOk_no h0 ow (by first | exact .inl zs | exact .inr zs)
     unfold val_leans33 new_leans33
     rw [hno]
     simp only [Bool.false_eq_true, if_false]
     refine gives_mk (L := [0, 1, 2, 3]) (slots := [6, 7]) (w := 4) (.inr rfl) zr (gcVs_cons zh (gcV_free rfl) (gcVs_cons zh (gcV_free rfl) gcVs_nil)) (gcH_cons (gcO_old (by rfl) zh) (gcH_cons (gcO_old (by rfl) zh) (gcH_cons (gcO_old (by rfl) zh) (gcH_cons (gcO_old (by rfl) zh) gcH_nil)))) zr (by simp only [Try.results31, resA, cst, mkE, Tr.get_set, reduceIte, Nat.reduceEqDiff, Nat.reduceAdd] <;> rfl) ?_
     rfl
    ·have p14 := g14; try simp only [d1, d2, d3, d4, d5, d6, d7, d8, d9] at p14
     refine k_skip ?_
     refine e_seq ?_
     refine k_seq ?_
     refine k_draw hP hC zr ?_
     refine ds (x_field (off' := 0) rfl zt Try.underlying59 rfl T.s22 rfl) ?_
     refine ds (x_load1 rfl zt T.g22 (by first | exact l_boxI (whole_row zh rfl) (by (first | assumption | (exact cf_nth zs ow ow))) rfl | exact l_boxS (whole_row zh rfl) (by (first | assumption | (exact cf_nth zs ow ow))) rfl | (simp only [loadC, AH.fam, Tr.get_set, reduceIte, Nat.reduceEqDiff, Nat.reduceAdd, Fam.rb, List.drop_zero, List.drop_succ_cons, List.take_succ_cons, List.take_zero, List.length_cons, List.length_nil, Nat.zero_le, Nat.reduceLeDiff, and_self, true_and] <;> rfl))) ?_
     refine ds (x_move rfl zt) ?_
     refine ds (x_move rfl zt) ?_
     refine ds (x_move rfl zt) ?_
     refine ds (x_indexS hs_u rfl zt zt Try.underlying22 T.s3 ow ow) ?_
     refine ds (x_load1 rfl zt T.g3 (by first | exact l_ints (whole_row zh rfl) ow ow | exact l_partI0 (whole_row zh rfl) zs rfl ow ow rfl)) ?_
     refine ds (x_indexS hs_L rfl zt zt Try.underlying23 T.s43 ow ow) ?_
     refine ds (x_field0 rfl zt Try.underlying43 rfl T.s3 rfl) ?_
     refine ds (x_load1 rfl zt T.g3 (l_partI0 (K := 46) (whole_row zh rfl) zs rfl ow ow rfl)) ?_
     refine d_call0 (wA_none rfl) rfl rfl rfl zv zd ?_
     refine ⟨_, _, _, _, (tab_hit.trans (in_c (rd_sl hs_w zd (whole_row zh rfl) (by rw [ints_len, Nat.mul_one]) (ints_free0 _)) (by rw [ok_in, decide_eq_true hw]))), ?_⟩
     refine d_done ⟨by kernel_rfl, ?_⟩
     refine e_seq ?_
     refine k_cond (by simp only [Tr.get_set, reduceIte, Nat.reduceEqDiff, Nat.reduceAdd, ev_tmp, g10, g12, g14] <;> rfl) (fun g16 => ?_) (fun g16 => ?_)
     ·have p16 := g16; try simp only [d1, d2, d3, d4, d5, d6, d7, d8, d9] at p16
      refine k_region hP hC ?_
      refine os (x_move rfl zt) ?_
      refine os (x_move rfl zt) ?_
      refine os (x_move rfl zt) ?_
      refine os (x_indexS hs_u rfl zt zt Try.underlying22 T.s3 ow ow) ?_
      refine os (x_load1 rfl zt T.g3 (by first | exact l_ints (whole_row zh rfl) ow ow | exact l_partI0 (whole_row zh rfl) zs rfl ow ow rfl)) ?_
      refine os (y_bsliceV rfl zt rfl Try.underlying22 T.s3 T.z3 rfl rfl) ?_
      refine os (x_append rfl rfl zv rfl rfl zr (cells_row Try.underlying22 T.s3 (l_all (whole_row zh rfl) rfl)) (ya_own Try.underlying22 T.i22 zd rfl ow (by unfold BIG; omega) rfl zd zh rfl (by rw [ints_len, Nat.mul_one]))) ?_
      refine os (x_assign rfl zt) ?_
      refine o_done ?_
      refine e_block ?_
      refine e_seq ?_
      refine k_region hP hC ?_
      refine os (x_move rfl zt) ?_
      refine os (x_bin rfl zt (by rfl) b_add) ?_
      refine os (x_assign rfl zt) ?_
      refine o_done ?_
      refine e_loop ?_
      refine ⟨(true, IntKind.i64.wrap (i + 1), (acc ++ [ith u i])), (to_mk (L := [0, 1, 2, 3, 4, 7]) (slots := [0, 1, 5, 8, 9]) (w := 4) zr (gcVs_cons zh (gcV_sl hs_L rfl) (gcVs_cons zh (gcV_sl hs_u rfl) (gcVs_cons zh (gcV_ptr rfl) (gcVs_cons zh (gcV_sliceE rfl (by simp)) (gcVs_cons zh (gcV_free rfl) gcVs_nil))))) (gcH_cons (gcO_old (by rfl) zh) (gcH_cons (gcO_old (by rfl) zh) (gcH_cons (gcO_old (by rfl) zh) (gcH_cons (gcO_old (by rfl) zh) (gcH_cons (gcO_rowE (by rfl) zh (gcD_cons (gcV_sl hs_w rfl) (gcD_cons (gcV_sl hs_a rfl) gcD_nil)) rfl) (gcH_cons (gcO_aliasE (by rfl) zh zh (gcD_free (by rw [List.all_append, ints_free1]; rfl)) (by simp only [ints_append, ints_one])) gcH_nil)))))) zr), ?_, ?_⟩
      ·rw [wr1 ow ow]; refine ⟨by omega, by omega, ?_, ?_, ?_⟩
       ·rw [show lnF L w (u.take (i + 1).toNat) = lnF L w (u.take i.toNat) ++ [ith u i] from filterI_hit h0 ow zs, ← h2]
       ·simp
       ·exact lnOk_next h0 ow h4 ow ow
      ·show (u.length - IntKind.i64.wrap (i + 1)).toNat < (u.length - i).toNat; rw [wr1 ow ow]; omega
     ·have p16 := g16; try simp only [d1, d2, d3, d4, d5, d6, d7, d8, d9] at p16
      refine k_skip ?_
      refine e_block ?_
      refine e_seq ?_
      refine k_region hP hC ?_
      refine os (x_move rfl zt) ?_
      refine os (x_bin rfl zt (by rfl) b_add) ?_
      refine os (x_assign rfl zt) ?_
      refine o_done ?_
      refine e_loop ?_
      refine ⟨(true, IntKind.i64.wrap (i + 1), acc), (to_mk (L := [0, 1, 2, 3, 4, 5]) (slots := [0, 1, 5, 8, 9]) (w := 4) zr (gcVs_cons zh (gcV_sl hs_L rfl) (gcVs_cons zh (gcV_sl hs_u rfl) (gcVs_cons zh (gcV_ptr rfl) (gcVs_cons zh (gcV_slice rfl) (gcVs_cons zh (gcV_free rfl) gcVs_nil))))) (gcH_cons (gcO_old (by rfl) zh) (gcH_cons (gcO_old (by rfl) zh) (gcH_cons (gcO_old (by rfl) zh) (gcH_cons (gcO_old (by rfl) zh) (gcH_cons (gcO_rowE (by rfl) zh (gcD_cons (gcV_sl hs_w rfl) (gcD_cons (gcV_sl hs_a rfl) gcD_nil)) rfl) (gcH_cons (gcO_row (by rfl) zh (gcD_free (ints_free1 _))) gcH_nil)))))) zr), ?_, ?_⟩
      ·rw [wr1 ow ow]; refine ⟨by omega, by omega, ?_, ?_, ?_⟩
       ·rw [show lnF L w (u.take (i + 1).toNat) = lnF L w (u.take i.toNat) from filterI_skip h0 ow zs]; exact h2
       ·exact h3
       ·exact lnOk_next h0 ow h4 ow ow
      ·show (u.length - IntKind.i64.wrap (i + 1)).toNat < (u.length - i).toNat; rw [wr1 ow ow]; omega
  ·have p10 := g10; try simp only [d1, d2, d3, d4, d5, d6, d7, d8, d9] at p10
   refine k_exit ?_
   refine e_seq_exit ?_
   refine e_loop_exit ?_
   refine e_block_eq ?_
   refine e_seq ?_
   refine k_seq ?_
   refine k_region hP hC ?_
   refine os (x_move rfl zt) ?_
   refine os (x_assign rfl zt) ?_
   refine os (x_assign rfl (by rfl)) ?_
   refine o_done ?_
   refine e_seq ?_
   refine k_ret ?_
   rw [take_end ow] at h2 h4
   unfold val_leans33 new_leans33
   rw [h4]
   simp only [if_true]
   rw [← h2]
   have hne : acc.length ≠ 0 := by intro e; have e2 := List.eq_nil_of_length_eq_zero e; subst e2; cases h3
   rw [outV_ne hne, outN_ne hne]
   refine gives_mk (L := [0, 1, 2, 3, 5]) (slots := [6, 7]) (w := 4) (.inr rfl) zr (gcVs_cons zh (gcV_slice rfl) (gcVs_cons zh (gcV_free rfl) gcVs_nil)) (gcH_cons (gcO_old (by rfl) zh) (gcH_cons (gcO_old (by rfl) zh) (gcH_cons (gcO_old (by rfl) zh) (gcH_cons (gcO_old (by rfl) zh) (gcH_cons (gcO_row (by rfl) zh (gcD_free (ints_free1 _))) gcH_nil))))) zr (by simp only [Try.results31, resA, cst, mkE, Tr.get_set, reduceIte, Nat.reduceEqDiff, Nat.reduceAdd] <;> rfl) ?_
   rfl
theorem con_leans33 : Con Try.prog 31 c_leans33 := con_flat Try.func31 rfl fun us cs v new h => by
 unfold spec_leans33 at h
 split at h
 case h_2 => cases h
 rename_i s_L s_u s_w s_a c_L c_u c_w c_a
 split at h
 case isFalse => cases h
 rename_i hc
 try simp only [Bool.and_eq_true] at hc
 obtain ⟨⟨⟨⟨⟨⟨⟨⟨q_L, r_L⟩, q_u⟩, r_u⟩, q_w⟩, r_w⟩, q_a⟩, r_a⟩, hok⟩ := hc
 cases h
 obtain ⟨h_L, e_L⟩ := isRows_cfs zd r_L
 have hs_L := slOk_sl (n := (chunks 46 c_L).length) q_L zd (rows_len (ks := T.K43) zd r_L)
 have e_u := ints_unints r_u
 have hs_u := slOk_sl (n := (unints c_u).length) q_u zd (by rw [← ints_len, e_u, Nat.mul_one])
 have e_w := ints_unints r_w
 have hs_w := slOk_sl (n := (unints c_w).length) q_w zd (by rw [← ints_len, e_w, Nat.mul_one])
 have e_a := ints_unints r_a
 have hs_a := slOk_sl (n := (unints c_a).length) q_a zd (by rw [← ints_len, e_a, Nat.mul_one])
 have key := leans33_m hs_L h_L hs_u hs_w hs_a hok
 have hrows : [(chunks T.K43.length c_L).flatten, ints (unints c_u), ints (unints c_w), ints (unints c_a)] = [c_L, c_u, c_w, c_a] := by rw [e_L, e_u, e_w, e_a]
 rw [← hrows]
 exact key
theorem leans33_c {H : AH} {s_L : Value} {s_u : Value} {s_w : Value} {s_a : Value} {L : List (List Value)} {u : List Int} {w : List Int} {a : List Int} (hr_L : Rd H 46 s_L L.length L.flatten) (h_L : cfs T.K43 L) (hr_u : Rd H 1 s_u u.length (ints u)) (hr_w : Rd H 1 s_w w.length (ints w)) (hr_a : Rd H 1 s_a a.length (ints a)) (hok : ok_leans33 L u w a = true) : c_leans33 [s_L, s_u, .agg ⟨[s_w, s_a]⟩] H = some (if lnOk L u then .tuple ⟨[outV H.next 1 (lnF L w u).length, .int .i64 0]⟩ else .tuple ⟨[.slice none 0 0, .int .i64 5]⟩, addRows H (if lnOk L u then outN (lnF L w u).length (ints (lnF L w u)) else [])) := by
 obtain ⟨u_L, a_L, b_L⟩ := hr_L 0
 obtain ⟨u_u, a_u, b_u⟩ := hr_u 1
 obtain ⟨u_w, a_w, b_w⟩ := hr_w 2
 obtain ⟨u_a, a_a, b_a⟩ := hr_a 3
 have k_L := isRows_flat zd h_L
 have k2_L : chunks 46 L.flatten = L := k_L.2
 exact flatC_at (v := val_leans33 L u w a) (new := new_leans33 L u w a) (cl_sl a_L (cl_sl a_u (cl_ag2 a_w a_a cl_nil))) (by simp only [spec_leans33, sl_slOk b_L (cfs_len h_L), k_L.1, k2_L, sl_slOk b_u (by rw [ints_len, Nat.mul_one]), isInts_ints, unints_ints, sl_slOk b_w (by rw [ints_len, Nat.mul_one]), sl_slOk b_a (by rw [ints_len, Nat.mul_one]), hok, Bool.and_self, if_true]) (by unfold new_leans33 outN; split; split; rfl; simp only [List.all_cons, List.all_nil, Bool.and_true]; exact ints_free0 _; rfl) (by unfold val_leans33; split; exact gcV_tup2 out_gc' (gcV_free rfl); exact gcV_tup2 (gcV_free rfl) (gcV_free rfl))
def ok_leans (L : List (List Value)) (u : List Int) (w : List Int) (a : List Int) : Bool := decide (L.length ≤ 1000) && decide (u.length ≤ 17592186044416) && decide (w.length < 4611686018427387904)
def val_leans (L : List (List Value)) (u : List Int) (w : List Int) (a : List Int) : Value := if lnOk L u then .tuple ⟨[outV 4 1 (lnF L w u).length, .int .i64 0]⟩ else .tuple ⟨[.slice none 0 0, .int .i64 5]⟩
def new_leans (L : List (List Value)) (u : List Int) (w : List Int) (a : List Int) : List (List Value) := if lnOk L u then outN (lnF L w u).length (ints (lnF L w u)) else []
def spec_leans : Go.AM.Spec := fun us cs => match us, cs with
 | [s_L, s_u, .agg ⟨[s_w, s_a]⟩], [c_L, c_u, c_w, c_a] => if slOk 0 46 c_L s_L && isRows T.K43 c_L && slOk 1 1 c_u s_u && isInts c_u && slOk 2 1 c_w s_w && isInts c_w && slOk 3 1 c_a s_a && isInts c_a && ok_leans (chunks 46 c_L) (unints c_u) (unints c_w) (unints c_a) then some (val_leans (chunks 46 c_L) (unints c_u) (unints c_w) (unints c_a), new_leans (chunks 46 c_L) (unints c_u) (unints c_w) (unints c_a)) else none
 | _, _ => none
def c_leans := flatC [.sl 46, .sl 1, .ag [1, 1]] spec_leans
theorem leans_m {s_L : Value} {s_u : Value} {s_w : Value} {s_a : Value} {L : List (List Value)} {u : List Int} {w : List Int} {a : List Int} (hs_L : Sl 0 46 L.length s_L) (h_L : cfs T.K43 L) (hs_u : Sl 1 1 u.length s_u) (hs_w : Sl 2 1 w.length s_w) (hs_a : Sl 3 1 a.length s_a) (hok : ok_leans L u w a = true) : Meets Try.prog (.func 30) [s_L, s_u, .agg ⟨[s_w, s_a]⟩] (cheap [L.flatten, ints u, ints w, ints a]) (val_leans L u w a) (rheap [L.flatten, ints u, ints w, ints a] (new_leans L u w a)) := by
 have hP := Fits
 have hC : CallSound Try.prog (tabOf [(47, c_contains)]) := tab_sound (tab_cons con_contains tab_end)
 simp only [ok_leans, Bool.and_eq_true, decide_eq_true_eq] at hok
 obtain ⟨⟨hb, hu⟩, hw⟩ := hok
 refine meets_start (sz := 39) hP Try.func30 rfl rfl zo (by simp only [Tr.ofList, roRows, Nat.zero_add, Nat.reduceAdd] <;> rfl) zl ?_
 refine k_seq ?_
 refine k_region hP hC ?_
 refine os (y_boxA rfl zt) ?_
 refine os (x_assign rfl (by rfl)) ?_
 refine os (x_assign rfl (by rfl)) ?_
 refine o_done ?_
 refine e_seq ?_
 refine k_seq ?_
 refine k_region hP hC ?_
 refine os (x_assign rfl (by rfl)) ?_
 refine o_done ?_
 refine e_seq ?_
 refine k_seq ?_
 refine k_seq ?_
 refine k_region hP hC ?_
 refine os (x_move rfl zt) ?_
 refine os (x_lenS hs_u rfl rfl zv rfl Try.underlying22) ?_
 refine os (x_move rfl (by rfl)) ?_
 refine o_done ?_
 refine e_seq ?_
 refine k_block ?_
 refine k_loop (α := Bool × Int × List Int) (fun z => match z with | (false, i, acc) => cst 39 [0, 5, 11, 12, 8, 13] [s_L, .pointer (some ⟨4, 0, none⟩), s_u, .int .i64 u.length, .slice none 0 0, .int .i64 i] [.row L.flatten 0 BIG true L.flatten.length, .row (ints u) 1 BIG true (ints u).length, .row (ints w) 2 BIG true (ints w).length, .row (ints a) 3 BIG true (ints a).length, .row [s_w, s_a] 4 BIG false 2] 4 | (true, i, acc) => cst 39 [0, 5, 11, 12, 8, 13] [s_L, .pointer (some ⟨4, 0, none⟩), s_u, .int .i64 u.length, .slice (some ⟨5, 0, none⟩) acc.length (acc.length + 1), .int .i64 i] [.row L.flatten 0 BIG true L.flatten.length, .row (ints u) 1 BIG true (ints u).length, .row (ints w) 2 BIG true (ints w).length, .row (ints a) 3 BIG true (ints a).length, .row [s_w, s_a] 4 BIG false 2, .row (ints acc) 5 BIG false (ints acc).length] 4) (fun z => match z with | (b, i, acc) => 0 ≤ i ∧ i ≤ u.length ∧ acc = lnF L w (u.take i.toNat) ∧ acc.isEmpty = !b ∧ lnOk L (u.take i.toNat) = true) (fun z => match z with | (_, i, _) => (u.length - i).toNat) (false, 0, []) (to_mk (L := [0, 1, 2, 3, 4]) (slots := [0, 5, 11, 12, 8, 13]) (w := 4) zr (gcVs_cons zh (gcV_sl hs_L rfl) (gcVs_cons zh (gcV_ptr rfl) (gcVs_cons zh (gcV_sl hs_u rfl) (gcVs_cons zh (gcV_free rfl) (gcVs_cons zh (gcV_free rfl) (gcVs_cons zh (gcV_free rfl) gcVs_nil)))))) (gcH_cons (gcO_old (by rfl) zh) (gcH_cons (gcO_old (by rfl) zh) (gcH_cons (gcO_old (by rfl) zh) (gcH_cons (gcO_old (by rfl) zh) (gcH_cons (gcO_rowE (by rfl) zh (gcD_cons (gcV_sl hs_w rfl) (gcD_cons (gcV_sl hs_a rfl) gcD_nil)) rfl) gcH_nil))))) zr) ⟨by omega, by omega, rfl, rfl, rfl⟩ ?_
 rintro ⟨_ | _, i, acc⟩ ⟨h0, h1, h2, h3, h4⟩
 ·skip
  have hacc : acc = [] := List.isEmpty_iff.1 h3
  refine k_cst zm zo zl ?_
  refine k_seq ?_
  refine k_region hP hC ?_
  refine os (x_bin rfl zt zt b_lss) ?_
  refine o_done ?_
  refine e_seq ?_
  refine k_seq ?_
  refine k_cond zt (fun g2 => ?_) (fun g2 => ?_)
  ·have p2 := g2; try simp only [d1, d2, d3, d4, d5, d6, d7, d8, d9] at p2
   refine k_skip ?_
   refine e_seq ?_
   refine k_seq ?_
   refine k_block ?_
   refine k_seq ?_
   refine k_region hP hC ?_
   refine os (x_indexS hs_u rfl zt zt Try.underlying22 T.s3 ow ow) ?_
   refine os (x_load1 rfl zt T.g3 (by first | exact l_ints (whole_row zh rfl) ow ow | exact l_partI0 (whole_row zh rfl) zs rfl ow ow rfl)) ?_
   refine os (x_assign rfl zt) ?_
   refine o_done ?_
   refine e_seq ?_
   refine k_seq ?_
   refine k_seq ?_
   refine k_region hP hC ?_
   refine os (x_move rfl zt) ?_
   refine os (x_bin rfl zt (by rfl) b_lss) ?_
   refine os (x_move rfl zt) ?_
   refine o_guard rfl rfl zh (fun g4 => ?_) (fun g4 => ?_)
   ·have p4 := g4; try simp only [d1, d2, d3, d4, d5, d6, d7, d8, d9] at p4
    refine o_skip (wA_off rfl rfl zg) rfl zd ?_
    refine o_skip (wA_off rfl rfl zg) rfl zd ?_
    refine o_skip (wA_off rfl rfl zg) rfl zd ?_
    refine o_skip (wA_off rfl rfl zg) rfl zd ?_
    refine os (x_pick rfl zg zb) ?_
    refine o_done ?_
    refine e_seq ?_
    refine k_condT zg ?_
    refine k_seq ?_
    refine k_region hP hC ?_
    refine os (x_assign rfl (by rfl)) ?_
    refine os (x_assign rfl (by rfl)) ?_
    refine o_done ?_
    refine e_seq ?_
    refine k_ret ?_
    refine e_seq_ret ?_
    refine e_block_ret ?_
    refine e_seq_ret ?_
    refine e_loop_ret ?_
    refine e_block_ret ?_
    refine e_seq_ret ?_
    have hno : lnOk L u = false := lnOk_no h0 ow (by first | exact .inl zs | exact .inr zs)
    unfold val_leans new_leans
    rw [hno]
    simp only [Bool.false_eq_true, if_false]
    refine gives_mk (L := [0, 1, 2, 3]) (slots := [6, 7]) (w := 4) (.inr rfl) zr (gcVs_cons zh (gcV_free rfl) (gcVs_cons zh (gcV_free rfl) gcVs_nil)) (gcH_cons (gcO_old (by rfl) zh) (gcH_cons (gcO_old (by rfl) zh) (gcH_cons (gcO_old (by rfl) zh) (gcH_cons (gcO_old (by rfl) zh) gcH_nil)))) zr (by simp only [Try.results30, resA, cst, mkE, Tr.get_set, reduceIte, Nat.reduceEqDiff, Nat.reduceAdd] <;> rfl) ?_
    rfl
   ·have p4 := g4; try simp only [d1, d2, d3, d4, d5, d6, d7, d8, d9] at p4
    refine o_step (wA_on rfl rfl zg) rfl (x_move rfl zt) zd ?_
    refine o_step (wA_on rfl rfl zg) rfl (x_move rfl zt) zd ?_
    refine o_step (wA_on rfl rfl zg) rfl (x_lenS hs_L rfl rfl zv rfl Try.underlying23) zd ?_
    refine o_step (wA_on rfl rfl zg) rfl (x_bin rfl zt zt b_geq) zd ?_
    refine os (x_pick rfl zg zb) ?_
    refine o_done ?_
    refine e_seq ?_
    refine k_cond (by simp only [Tr.get_set, reduceIte, Nat.reduceEqDiff, Nat.reduceAdd, ev_tmp, g2, g4] <;> rfl) (fun g6 => ?_) (fun g6 => ?_)
    ·have p6 := g6; try simp only [d1, d2, d3, d4, d5, d6, d7, d8, d9] at p6
     refine k_seq ?_
     refine k_region hP hC ?_
     refine os (x_assign rfl (by rfl)) ?_
     refine os (x_assign rfl (by rfl)) ?_
     refine o_done ?_
     refine e_seq ?_
     refine k_ret ?_
     refine e_seq_ret ?_
     refine e_block_ret ?_
     refine e_seq_ret ?_
     refine e_loop_ret ?_
     refine e_block_ret ?_
     refine e_seq_ret ?_
     have hno : lnOk L u = false := lnOk_no h0 ow (by first | exact .inl zs | exact .inr zs)
     unfold val_leans new_leans
     rw [hno]
     simp only [Bool.false_eq_true, if_false]
     refine gives_mk (L := [0, 1, 2, 3]) (slots := [6, 7]) (w := 4) (.inr rfl) zr (gcVs_cons zh (gcV_free rfl) (gcVs_cons zh (gcV_free rfl) gcVs_nil)) (gcH_cons (gcO_old (by rfl) zh) (gcH_cons (gcO_old (by rfl) zh) (gcH_cons (gcO_old (by rfl) zh) (gcH_cons (gcO_old (by rfl) zh) gcH_nil)))) zr (by simp only [Try.results30, resA, cst, mkE, Tr.get_set, reduceIte, Nat.reduceEqDiff, Nat.reduceAdd] <;> rfl) ?_
     rfl
    ·have p6 := g6; try simp only [d1, d2, d3, d4, d5, d6, d7, d8, d9] at p6
     refine k_skip ?_
     refine e_seq ?_
     refine k_seq ?_
     refine k_draw hP hC zr ?_
     refine ds (x_field (off' := 0) rfl zt Try.underlying56 rfl T.s22 rfl) ?_
     refine ds (x_load1 rfl zt T.g22 (by first | exact l_boxI (whole_row zh rfl) (by (first | assumption | (exact cf_nth zs ow ow))) rfl | exact l_boxS (whole_row zh rfl) (by (first | assumption | (exact cf_nth zs ow ow))) rfl | (simp only [loadC, AH.fam, Tr.get_set, reduceIte, Nat.reduceEqDiff, Nat.reduceAdd, Fam.rb, List.drop_zero, List.drop_succ_cons, List.take_succ_cons, List.take_zero, List.length_cons, List.length_nil, Nat.zero_le, Nat.reduceLeDiff, and_self, true_and] <;> rfl))) ?_
     refine ds (x_move rfl zt) ?_
     refine ds (x_move rfl zt) ?_
     refine ds (x_indexS hs_L rfl zt zt Try.underlying23 T.s43 ow ow) ?_
     refine ds (x_field0 rfl zt Try.underlying43 rfl T.s3 rfl) ?_
     refine ds (x_load1 rfl zt T.g3 (l_partI0 (K := 46) (whole_row zh rfl) zs rfl ow ow rfl)) ?_
     refine d_call0 (wA_none rfl) rfl rfl rfl zv zd ?_
     refine ⟨_, _, _, _, (tab_hit.trans (contains_c (rd_sl hs_w zd (whole_row zh rfl) (by rw [ints_len, Nat.mul_one]) (ints_free0 _)) (by rw [ok_contains, decide_eq_true hw]))), ?_⟩
     refine d_done ⟨by kernel_rfl, ?_⟩
     refine e_seq ?_
     refine k_cond (by simp only [Tr.get_set, reduceIte, Nat.reduceEqDiff, Nat.reduceAdd, ev_tmp, g2, g4, g6] <;> rfl) (fun g8 => ?_) (fun g8 => ?_)
     ·have p8 := g8; try simp only [d1, d2, d3, d4, d5, d6, d7, d8, d9] at p8
      refine k_region hP hC ?_
      refine os (x_move rfl zt) ?_
      refine os (x_move rfl zt) ?_
      refine os (y_bsliceV rfl zt rfl Try.underlying22 T.s3 T.z3 rfl rfl) ?_
      refine os (x_append rfl rfl zv rfl rfl zr (cells_row Try.underlying22 T.s3 (l_all (whole_row zh rfl) rfl)) (ya_nil Try.underlying22 T.i22 zd rfl zd zd rfl zd)) ?_
      refine os (x_assign rfl zt) ?_
      refine o_done ?_
      refine e_block ?_
      refine e_seq ?_
      refine k_region hP hC ?_
      refine os (x_bin rfl zt (by rfl) b_add) ?_
      refine os (x_move rfl zt) ?_
      refine o_done ?_
      refine e_loop ?_
      refine ⟨(true, IntKind.i64.wrap (i + 1), [ith u i]), (to_mk (L := [0, 1, 2, 3, 4, 6]) (slots := [0, 5, 11, 12, 8, 13]) (w := 4) zr (gcVs_cons zh (gcV_sl hs_L rfl) (gcVs_cons zh (gcV_ptr rfl) (gcVs_cons zh (gcV_sl hs_u rfl) (gcVs_cons zh (gcV_free rfl) (gcVs_cons zh (gcV_slice rfl) (gcVs_cons zh (gcV_free rfl) gcVs_nil)))))) (gcH_cons (gcO_old (by rfl) zh) (gcH_cons (gcO_old (by rfl) zh) (gcH_cons (gcO_old (by rfl) zh) (gcH_cons (gcO_old (by rfl) zh) (gcH_cons (gcO_rowE (by rfl) zh (gcD_cons (gcV_sl hs_w rfl) (gcD_cons (gcV_sl hs_a rfl) gcD_nil)) rfl) (gcH_cons (gcO_rowE (by rfl) zh (gcD_free rfl) (by simp only [ints_append, ints_one])) gcH_nil)))))) zr), ?_, ?_⟩
      ·rw [wr1 ow ow]; refine ⟨by omega, by omega, ?_, ?_, ?_⟩
       ·rw [show lnF L w (u.take (i + 1).toNat) = lnF L w (u.take i.toNat) ++ [ith u i] from filterI_hit h0 ow zs, ← h2]; rw [hacc]; rfl
       ·rfl
       ·exact lnOk_next h0 ow h4 ow ow
      ·show (u.length - IntKind.i64.wrap (i + 1)).toNat < (u.length - i).toNat; rw [wr1 ow ow]; omega
     ·have p8 := g8; try simp only [d1, d2, d3, d4, d5, d6, d7, d8, d9] at p8
      refine k_skip ?_
      refine e_block ?_
      refine e_seq ?_
      refine k_region hP hC ?_
      refine os (x_bin rfl zt (by rfl) b_add) ?_
      refine os (x_move rfl zt) ?_
      refine o_done ?_
      refine e_loop ?_
      refine ⟨(false, IntKind.i64.wrap (i + 1), acc), (to_mk (L := [0, 1, 2, 3, 4]) (slots := [0, 5, 11, 12, 8, 13]) (w := 4) zr (gcVs_cons zh (gcV_sl hs_L rfl) (gcVs_cons zh (gcV_ptr rfl) (gcVs_cons zh (gcV_sl hs_u rfl) (gcVs_cons zh (gcV_free rfl) (gcVs_cons zh (gcV_free rfl) (gcVs_cons zh (gcV_free rfl) gcVs_nil)))))) (gcH_cons (gcO_old (by rfl) zh) (gcH_cons (gcO_old (by rfl) zh) (gcH_cons (gcO_old (by rfl) zh) (gcH_cons (gcO_old (by rfl) zh) (gcH_cons (gcO_rowE (by rfl) zh (gcD_cons (gcV_sl hs_w rfl) (gcD_cons (gcV_sl hs_a rfl) gcD_nil)) rfl) gcH_nil))))) zr), ?_, ?_⟩
      ·rw [wr1 ow ow]; refine ⟨by omega, by omega, ?_, ?_, ?_⟩
       ·rw [show lnF L w (u.take (i + 1).toNat) = lnF L w (u.take i.toNat) from filterI_skip h0 ow zs]; exact h2
       ·exact h3
       ·exact lnOk_next h0 ow h4 ow ow
      ·show (u.length - IntKind.i64.wrap (i + 1)).toNat < (u.length - i).toNat; rw [wr1 ow ow]; omega
  ·have p2 := g2; try simp only [d1, d2, d3, d4, d5, d6, d7, d8, d9] at p2
   refine k_exit ?_
   refine e_seq_exit ?_
   refine e_loop_exit ?_
   refine e_block_eq ?_
   refine e_seq ?_
   refine k_seq ?_
   refine k_region hP hC ?_
   refine os (x_move rfl zt) ?_
   refine os (x_assign rfl zt) ?_
   refine os (x_assign rfl (by rfl)) ?_
   refine o_done ?_
   refine e_seq ?_
   refine k_ret ?_
   rw [take_end ow] at h2 h4
   unfold val_leans new_leans
   rw [h4]
   simp only [if_true]
   rw [← h2]
   rw [hacc]
   refine gives_mk (L := [0, 1, 2, 3]) (slots := [6, 7]) (w := 4) (.inr rfl) zr (gcVs_cons zh (gcV_free rfl) (gcVs_cons zh (gcV_free rfl) gcVs_nil)) (gcH_cons (gcO_old (by rfl) zh) (gcH_cons (gcO_old (by rfl) zh) (gcH_cons (gcO_old (by rfl) zh) (gcH_cons (gcO_old (by rfl) zh) gcH_nil)))) zr (by simp only [Try.results30, resA, cst, mkE, Tr.get_set, reduceIte, Nat.reduceEqDiff, Nat.reduceAdd] <;> rfl) ?_
   rfl
 ·skip
  have hal : (acc.length : Int) ≤ i := by rw [h2]; exact filterI_len2 h0
  refine k_cst zm zo zl ?_
  refine k_seq ?_
  refine k_region hP hC ?_
  refine os (x_bin rfl zt zt b_lss) ?_
  refine o_done ?_
  refine e_seq ?_
  refine k_seq ?_
  refine k_cond zt (fun g10 => ?_) (fun g10 => ?_)
  ·have p10 := g10; try simp only [d1, d2, d3, d4, d5, d6, d7, d8, d9] at p10
   refine k_skip ?_
   refine e_seq ?_
   refine k_seq ?_
   refine k_block ?_
   refine k_seq ?_
   refine k_region hP hC ?_
   refine os (x_indexS hs_u rfl zt zt Try.underlying22 T.s3 ow ow) ?_
   refine os (x_load1 rfl zt T.g3 (by first | exact l_ints (whole_row zh rfl) ow ow | exact l_partI0 (whole_row zh rfl) zs rfl ow ow rfl)) ?_
   refine os (x_assign rfl zt) ?_
   refine o_done ?_
   refine e_seq ?_
   refine k_seq ?_
   refine k_seq ?_
   refine k_region hP hC ?_
   refine os (x_move rfl zt) ?_
   refine os (x_bin rfl zt (by rfl) b_lss) ?_
   refine os (x_move rfl zt) ?_
   refine o_guard rfl rfl zh (fun g12 => ?_) (fun g12 => ?_)
   ·have p12 := g12; try simp only [d1, d2, d3, d4, d5, d6, d7, d8, d9] at p12
    refine o_skip (wA_off rfl rfl zg) rfl zd ?_
    refine o_skip (wA_off rfl rfl zg) rfl zd ?_
    refine o_skip (wA_off rfl rfl zg) rfl zd ?_
    refine o_skip (wA_off rfl rfl zg) rfl zd ?_
    refine os (x_pick rfl zg zb) ?_
    refine o_done ?_
    refine e_seq ?_
    refine k_condT zg ?_
    refine k_seq ?_
    refine k_region hP hC ?_
    refine os (x_assign rfl (by rfl)) ?_
    refine os (x_assign rfl (by rfl)) ?_
    refine o_done ?_
    refine e_seq ?_
    refine k_ret ?_
    refine e_seq_ret ?_
    refine e_block_ret ?_
    refine e_seq_ret ?_
    refine e_loop_ret ?_
    refine e_block_ret ?_
    refine e_seq_ret ?_
    have hno : lnOk L u = false := lnOk_no h0 ow (by first | exact .inl zs | exact .inr zs)
    unfold val_leans new_leans
    rw [hno]
    simp only [Bool.false_eq_true, if_false]
    refine gives_mk (L := [0, 1, 2, 3]) (slots := [6, 7]) (w := 4) (.inr rfl) zr (gcVs_cons zh (gcV_free rfl) (gcVs_cons zh (gcV_free rfl) gcVs_nil)) (gcH_cons (gcO_old (by rfl) zh) (gcH_cons (gcO_old (by rfl) zh) (gcH_cons (gcO_old (by rfl) zh) (gcH_cons (gcO_old (by rfl) zh) gcH_nil)))) zr (by simp only [Try.results30, resA, cst, mkE, Tr.get_set, reduceIte, Nat.reduceEqDiff, Nat.reduceAdd] <;> rfl) ?_
    rfl
   ·have p12 := g12; try simp only [d1, d2, d3, d4, d5, d6, d7, d8, d9] at p12
    refine o_step (wA_on rfl rfl zg) rfl (x_move rfl zt) zd ?_
    refine o_step (wA_on rfl rfl zg) rfl (x_move rfl zt) zd ?_
    refine o_step (wA_on rfl rfl zg) rfl (x_lenS hs_L rfl rfl zv rfl Try.underlying23) zd ?_
    refine o_step (wA_on rfl rfl zg) rfl (x_bin rfl zt zt b_geq) zd ?_
    refine os (x_pick rfl zg zb) ?_
    refine o_done ?_
    refine e_seq ?_
    refine k_cond (by simp only [Tr.get_set, reduceIte, Nat.reduceEqDiff, Nat.reduceAdd, ev_tmp, g10, g12] <;> rfl) (fun g14 => ?_) (fun g14 => ?_)
    ·have p14 := g14; try simp only [d1, d2, d3, d4, d5, d6, d7, d8, d9] at p14
     refine k_seq ?_
     refine k_region hP hC ?_
     refine os (x_assign rfl (by rfl)) ?_
     refine os (x_assign rfl (by rfl)) ?_
     refine o_done ?_
     refine e_seq ?_
     refine k_ret ?_
     refine e_seq_ret ?_
     refine e_block_ret ?_
     refine e_seq_ret ?_
     refine e_loop_ret ?_
     refine e_block_ret ?_
     refine e_seq_ret ?_
     have hno : lnOk L u = false := lnOk_no h0 ow (by first | exact .inl zs | exact .inr zs)
     unfold val_leans new_leans
     rw [hno]
     simp only [Bool.false_eq_true, if_false]
     refine gives_mk (L := [0, 1, 2, 3]) (slots := [6, 7]) (w := 4) (.inr rfl) zr (gcVs_cons zh (gcV_free rfl) (gcVs_cons zh (gcV_free rfl) gcVs_nil)) (gcH_cons (gcO_old (by rfl) zh) (gcH_cons (gcO_old (by rfl) zh) (gcH_cons (gcO_old (by rfl) zh) (gcH_cons (gcO_old (by rfl) zh) gcH_nil)))) zr (by simp only [Try.results30, resA, cst, mkE, Tr.get_set, reduceIte, Nat.reduceEqDiff, Nat.reduceAdd] <;> rfl) ?_
     rfl
    ·have p14 := g14; try simp only [d1, d2, d3, d4, d5, d6, d7, d8, d9] at p14
     refine k_skip ?_
     refine e_seq ?_
     refine k_seq ?_
     refine k_draw hP hC zr ?_
     refine ds (x_field (off' := 0) rfl zt Try.underlying56 rfl T.s22 rfl) ?_
     refine ds (x_load1 rfl zt T.g22 (by first | exact l_boxI (whole_row zh rfl) (by (first | assumption | (exact cf_nth zs ow ow))) rfl | exact l_boxS (whole_row zh rfl) (by (first | assumption | (exact cf_nth zs ow ow))) rfl | (simp only [loadC, AH.fam, Tr.get_set, reduceIte, Nat.reduceEqDiff, Nat.reduceAdd, Fam.rb, List.drop_zero, List.drop_succ_cons, List.take_succ_cons, List.take_zero, List.length_cons, List.length_nil, Nat.zero_le, Nat.reduceLeDiff, and_self, true_and] <;> rfl))) ?_
     refine ds (x_move rfl zt) ?_
     refine ds (x_move rfl zt) ?_
     refine ds (x_indexS hs_L rfl zt zt Try.underlying23 T.s43 ow ow) ?_
     refine ds (x_field0 rfl zt Try.underlying43 rfl T.s3 rfl) ?_
     refine ds (x_load1 rfl zt T.g3 (l_partI0 (K := 46) (whole_row zh rfl) zs rfl ow ow rfl)) ?_
     refine d_call0 (wA_none rfl) rfl rfl rfl zv zd ?_
     refine ⟨_, _, _, _, (tab_hit.trans (contains_c (rd_sl hs_w zd (whole_row zh rfl) (by rw [ints_len, Nat.mul_one]) (ints_free0 _)) (by rw [ok_contains, decide_eq_true hw]))), ?_⟩
     refine d_done ⟨by kernel_rfl, ?_⟩
     refine e_seq ?_
     refine k_cond (by simp only [Tr.get_set, reduceIte, Nat.reduceEqDiff, Nat.reduceAdd, ev_tmp, g10, g12, g14] <;> rfl) (fun g16 => ?_) (fun g16 => ?_)
     ·have p16 := g16; try simp only [d1, d2, d3, d4, d5, d6, d7, d8, d9] at p16
      refine k_region hP hC ?_
      refine os (x_move rfl zt) ?_
      refine os (x_move rfl zt) ?_
      refine os (y_bsliceV rfl zt rfl Try.underlying22 T.s3 T.z3 rfl rfl) ?_
      refine os (x_append rfl rfl zv rfl rfl zr (cells_row Try.underlying22 T.s3 (l_all (whole_row zh rfl) rfl)) (ya_own Try.underlying22 T.i22 zd rfl ow (by unfold BIG; omega) rfl zd zh rfl (by rw [ints_len, Nat.mul_one]))) ?_
      refine os (x_assign rfl zt) ?_
      refine o_done ?_
      refine e_block ?_
      refine e_seq ?_
      refine k_region hP hC ?_
      refine os (x_bin rfl zt (by rfl) b_add) ?_
      refine os (x_move rfl zt) ?_
      refine o_done ?_
      refine e_loop ?_
      refine ⟨(true, IntKind.i64.wrap (i + 1), (acc ++ [ith u i])), (to_mk (L := [0, 1, 2, 3, 4, 7]) (slots := [0, 5, 11, 12, 8, 13]) (w := 4) zr (gcVs_cons zh (gcV_sl hs_L rfl) (gcVs_cons zh (gcV_ptr rfl) (gcVs_cons zh (gcV_sl hs_u rfl) (gcVs_cons zh (gcV_free rfl) (gcVs_cons zh (gcV_sliceE rfl (by simp)) (gcVs_cons zh (gcV_free rfl) gcVs_nil)))))) (gcH_cons (gcO_old (by rfl) zh) (gcH_cons (gcO_old (by rfl) zh) (gcH_cons (gcO_old (by rfl) zh) (gcH_cons (gcO_old (by rfl) zh) (gcH_cons (gcO_rowE (by rfl) zh (gcD_cons (gcV_sl hs_w rfl) (gcD_cons (gcV_sl hs_a rfl) gcD_nil)) rfl) (gcH_cons (gcO_aliasE (by rfl) zh zh (gcD_free (by rw [List.all_append, ints_free1]; rfl)) (by simp only [ints_append, ints_one])) gcH_nil)))))) zr), ?_, ?_⟩
      ·rw [wr1 ow ow]; refine ⟨by omega, by omega, ?_, ?_, ?_⟩
       ·rw [show lnF L w (u.take (i + 1).toNat) = lnF L w (u.take i.toNat) ++ [ith u i] from filterI_hit h0 ow zs, ← h2]
       ·simp
       ·exact lnOk_next h0 ow h4 ow ow
      ·show (u.length - IntKind.i64.wrap (i + 1)).toNat < (u.length - i).toNat; rw [wr1 ow ow]; omega
     ·have p16 := g16; try simp only [d1, d2, d3, d4, d5, d6, d7, d8, d9] at p16
      refine k_skip ?_
      refine e_block ?_
      refine e_seq ?_
      refine k_region hP hC ?_
      refine os (x_bin rfl zt (by rfl) b_add) ?_
      refine os (x_move rfl zt) ?_
      refine o_done ?_
      refine e_loop ?_
      refine ⟨(true, IntKind.i64.wrap (i + 1), acc), (to_mk (L := [0, 1, 2, 3, 4, 5]) (slots := [0, 5, 11, 12, 8, 13]) (w := 4) zr (gcVs_cons zh (gcV_sl hs_L rfl) (gcVs_cons zh (gcV_ptr rfl) (gcVs_cons zh (gcV_sl hs_u rfl) (gcVs_cons zh (gcV_free rfl) (gcVs_cons zh (gcV_slice rfl) (gcVs_cons zh (gcV_free rfl) gcVs_nil)))))) (gcH_cons (gcO_old (by rfl) zh) (gcH_cons (gcO_old (by rfl) zh) (gcH_cons (gcO_old (by rfl) zh) (gcH_cons (gcO_old (by rfl) zh) (gcH_cons (gcO_rowE (by rfl) zh (gcD_cons (gcV_sl hs_w rfl) (gcD_cons (gcV_sl hs_a rfl) gcD_nil)) rfl) (gcH_cons (gcO_row (by rfl) zh (gcD_free (ints_free1 _))) gcH_nil)))))) zr), ?_, ?_⟩
      ·rw [wr1 ow ow]; refine ⟨by omega, by omega, ?_, ?_, ?_⟩
       ·rw [show lnF L w (u.take (i + 1).toNat) = lnF L w (u.take i.toNat) from filterI_skip h0 ow zs]; exact h2
       ·exact h3
       ·exact lnOk_next h0 ow h4 ow ow
      ·show (u.length - IntKind.i64.wrap (i + 1)).toNat < (u.length - i).toNat; rw [wr1 ow ow]; omega
  ·have p10 := g10; try simp only [d1, d2, d3, d4, d5, d6, d7, d8, d9] at p10
   refine k_exit ?_
   refine e_seq_exit ?_
   refine e_loop_exit ?_
   refine e_block_eq ?_
   refine e_seq ?_
   refine k_seq ?_
   refine k_region hP hC ?_
   refine os (x_move rfl zt) ?_
   refine os (x_assign rfl zt) ?_
   refine os (x_assign rfl (by rfl)) ?_
   refine o_done ?_
   refine e_seq ?_
   refine k_ret ?_
   rw [take_end ow] at h2 h4
   unfold val_leans new_leans
   rw [h4]
   simp only [if_true]
   rw [← h2]
   have hne : acc.length ≠ 0 := by intro e; have e2 := List.eq_nil_of_length_eq_zero e; subst e2; cases h3
   rw [outV_ne hne, outN_ne hne]
   refine gives_mk (L := [0, 1, 2, 3, 5]) (slots := [6, 7]) (w := 4) (.inr rfl) zr (gcVs_cons zh (gcV_slice rfl) (gcVs_cons zh (gcV_free rfl) gcVs_nil)) (gcH_cons (gcO_old (by rfl) zh) (gcH_cons (gcO_old (by rfl) zh) (gcH_cons (gcO_old (by rfl) zh) (gcH_cons (gcO_old (by rfl) zh) (gcH_cons (gcO_row (by rfl) zh (gcD_free (ints_free1 _))) gcH_nil))))) zr (by simp only [Try.results30, resA, cst, mkE, Tr.get_set, reduceIte, Nat.reduceEqDiff, Nat.reduceAdd] <;> rfl) ?_
   rfl
theorem con_leans : Con Try.prog 30 c_leans := con_flat Try.func30 rfl fun us cs v new h => by
 unfold spec_leans at h
 split at h
 case h_2 => cases h
 rename_i s_L s_u s_w s_a c_L c_u c_w c_a
 split at h
 case isFalse => cases h
 rename_i hc
 try simp only [Bool.and_eq_true] at hc
 obtain ⟨⟨⟨⟨⟨⟨⟨⟨q_L, r_L⟩, q_u⟩, r_u⟩, q_w⟩, r_w⟩, q_a⟩, r_a⟩, hok⟩ := hc
 cases h
 obtain ⟨h_L, e_L⟩ := isRows_cfs zd r_L
 have hs_L := slOk_sl (n := (chunks 46 c_L).length) q_L zd (rows_len (ks := T.K43) zd r_L)
 have e_u := ints_unints r_u
 have hs_u := slOk_sl (n := (unints c_u).length) q_u zd (by rw [← ints_len, e_u, Nat.mul_one])
 have e_w := ints_unints r_w
 have hs_w := slOk_sl (n := (unints c_w).length) q_w zd (by rw [← ints_len, e_w, Nat.mul_one])
 have e_a := ints_unints r_a
 have hs_a := slOk_sl (n := (unints c_a).length) q_a zd (by rw [← ints_len, e_a, Nat.mul_one])
 have key := leans_m hs_L h_L hs_u hs_w hs_a hok
 have hrows : [(chunks T.K43.length c_L).flatten, ints (unints c_u), ints (unints c_w), ints (unints c_a)] = [c_L, c_u, c_w, c_a] := by rw [e_L, e_u, e_w, e_a]
 rw [← hrows]
 exact key
theorem leans_c {H : AH} {s_L : Value} {s_u : Value} {s_w : Value} {s_a : Value} {L : List (List Value)} {u : List Int} {w : List Int} {a : List Int} (hr_L : Rd H 46 s_L L.length L.flatten) (h_L : cfs T.K43 L) (hr_u : Rd H 1 s_u u.length (ints u)) (hr_w : Rd H 1 s_w w.length (ints w)) (hr_a : Rd H 1 s_a a.length (ints a)) (hok : ok_leans L u w a = true) : c_leans [s_L, s_u, .agg ⟨[s_w, s_a]⟩] H = some (if lnOk L u then .tuple ⟨[outV H.next 1 (lnF L w u).length, .int .i64 0]⟩ else .tuple ⟨[.slice none 0 0, .int .i64 5]⟩, addRows H (if lnOk L u then outN (lnF L w u).length (ints (lnF L w u)) else [])) := by
 obtain ⟨u_L, a_L, b_L⟩ := hr_L 0
 obtain ⟨u_u, a_u, b_u⟩ := hr_u 1
 obtain ⟨u_w, a_w, b_w⟩ := hr_w 2
 obtain ⟨u_a, a_a, b_a⟩ := hr_a 3
 have k_L := isRows_flat zd h_L
 have k2_L : chunks 46 L.flatten = L := k_L.2
 exact flatC_at (v := val_leans L u w a) (new := new_leans L u w a) (cl_sl a_L (cl_sl a_u (cl_ag2 a_w a_a cl_nil))) (by simp only [spec_leans, sl_slOk b_L (cfs_len h_L), k_L.1, k2_L, sl_slOk b_u (by rw [ints_len, Nat.mul_one]), isInts_ints, unints_ints, sl_slOk b_w (by rw [ints_len, Nat.mul_one]), sl_slOk b_a (by rw [ints_len, Nat.mul_one]), hok, Bool.and_self, if_true]) (by unfold new_leans outN; split; split; rfl; simp only [List.all_cons, List.all_nil, Bool.and_true]; exact ints_free0 _; rfl) (by unfold val_leans; split; exact gcV_tup2 out_gc' (gcV_free rfl); exact gcV_tup2 (gcV_free rfl) (gcV_free rfl))
end Go.Proofs.Ytohhcnehcjpekaa
