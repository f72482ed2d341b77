/-
  Contracts of the functions on accesses.
-/
import Derived.Test.YtlhlkjhjoalhoaaGreatDoorCDef
set_option linter.unusedSimpArgs false
set_option linter.unusedVariables false
namespace Go.Proofs.YtlhlkjhjoalhoaaGreatDoor
open Go.AM
set_option maxRecDepth 100000
set_option maxHeartbeats 1000000
set_option linter.unusedSimpArgs false
set_option linter.unusedVariables false
def ok_around (n : Int) (m : Int) : Bool := decide (inR n) && decide (0 < m)
def val_around (n : Int) (m : Int) : Value := .int .i64 (around n m)
def new_around (n : Int) (m : Int) : List (List Value) := []
def spec_around : Go.AM.Spec := fun us cs => match us, cs with
 | [.int .i64 n, .int .i64 m], [] => if ok_around n m then some (val_around n m, new_around n m) else none
 | _, _ => none
def c_around := flatC [.fr, .fr] spec_around
theorem around_m  {n : Int} {m : Int}  (hok : ok_around n m = true) : Meets Tryz.prog (.func 4) [.int .i64 n, .int .i64 m] (cheap []) (val_around n m) (rheap [] (new_around n m)) := by
 have hP := Fits
 have hC : CallSound Tryz.prog (tabOf []) := tab_sound tab_end
 simp only [ok_around, Bool.and_eq_true, decide_eq_true_eq] at hok
 obtain ⟨hn, hm⟩ := hok
 refine meets_start (sz := 13) hP Tryz.func4 rfl rfl zo (by simp only [Tr.ofList, roRows, Nat.zero_add, Nat.reduceAdd] <;> rfl) zl ?_
 refine k_seq ?_
 refine k_region hP hC ?_
 refine os (x_assign rfl (by rfl)) ?_
 refine o_done ?_
 refine e_seq ?_
 refine k_seq ?_
 refine k_seq ?_
 refine k_region hP hC ?_
 refine os (x_move rfl zt) ?_
 refine os (x_bin rfl zt (by rfl) b_lss) ?_
 refine o_done ?_
 refine e_seq ?_
 refine k_cond zt (fun g2 => ?_) (fun g2 => ?_)
 ·have p2 := g2; try simp only [d1, d2, d3, d4, d5, d6, d7, d8, d9] at p2
  refine k_region hP hC ?_
  refine os (x_move rfl zt) ?_
  refine os (x_bin rfl zt (by rfl) b_add) ?_
  refine os (x_neg rfl zt) ?_
  refine os (x_assign rfl zt) ?_
  refine o_done ?_
  refine e_seq ?_
  refine k_seq ?_
  refine k_region hP hC ?_
  refine os (x_move rfl zt) ?_
  refine os (x_move rfl zt) ?_
  refine os (x_bin rfl zt zt (b_rem (by first | decide | omega))) ?_
  refine os (x_assign rfl zt) ?_
  refine o_done ?_
  refine e_seq ?_
  refine k_ret ?_
  refine gives_mk (L := []) (slots := [4]) (w := 0) (.inr rfl) zr (gcVs_cons zh (gcV_free rfl) gcVs_nil) gcH_nil zr (by simp only [Tryz.results4, resA, cst, mkE, Tr.get_set, reduceIte, Nat.reduceEqDiff, Nat.reduceAdd] <;> rfl) ?_
  simp only [one, val_around]; congr 1; exact around_eq hn (by first | exact .inl ⟨by assumption, rfl⟩ | exact .inr ⟨by assumption, rfl⟩)
 ·have p2 := g2; try simp only [d1, d2, d3, d4, d5, d6, d7, d8, d9] at p2
  refine k_skip ?_
  refine e_seq ?_
  refine k_seq ?_
  refine k_region hP hC ?_
  refine os (x_move rfl zt) ?_
  refine os (x_move rfl zt) ?_
  refine os (x_bin rfl zt zt (b_rem (by first | decide | omega))) ?_
  refine os (x_assign rfl zt) ?_
  refine o_done ?_
  refine e_seq ?_
  refine k_ret ?_
  refine gives_mk (L := []) (slots := [4]) (w := 0) (.inr rfl) zr (gcVs_cons zh (gcV_free rfl) gcVs_nil) gcH_nil zr (by simp only [Tryz.results4, resA, cst, mkE, Tr.get_set, reduceIte, Nat.reduceEqDiff, Nat.reduceAdd] <;> rfl) ?_
  simp only [one, val_around]; congr 1; exact around_eq hn (by first | exact .inl ⟨by assumption, rfl⟩ | exact .inr ⟨by assumption, rfl⟩)
theorem con_around : Con Tryz.prog 4 c_around := con_flat Tryz.func4 rfl fun us cs v new h => by
 unfold spec_around at h
 split at h
 case h_2 => cases h
 rename_i n m
 split at h
 case isFalse => cases h
 rename_i hc
 try simp only [Bool.and_eq_true] at hc
 have hok := hc
 cases h
 have key := around_m  hok
 exact key
theorem around_c {H : AH}  {n : Int} {m : Int}  (hok : ok_around n m = true) : c_around [.int .i64 n, .int .i64 m] H = some (.int .i64 (around n m), H) := by
 exact flatC_at (v := val_around n m) (new := new_around n m) (cl_fr rfl (cl_fr rfl cl_nil)) (by simp only [spec_around, hok, Bool.and_self, if_true]) (rfl) (gcV_free rfl)
theorem bld34v {a b : Int} {c : Bool} : quick Tryz.prog (Instr.build 34 ⟨[(0, .int .i64 a), (1, .int .i64 b), (2, .bool c)]⟩) = some (.agg ⟨[.int .i64 a, .int .i64 b, .bool c]⟩) := by kernel_rfl
theorem acc3 {c : List Value} (h : cf T.K26 c = true) : c = [.int .i64 (intAt c 0), .int .i64 (intAt c 1), .bool (boolAt c 2)] := by
 have h0 := (cell_int h (a := 0) rfl).2
 have h1 := (cell_int h (a := 1) rfl).2
 have h2 := (cell_bool h (a := 2) rfl).2
 have hl := cf_len h
 match c, hl with
 | [a, b, d], _ =>
  simp only [List.getElem?_cons_zero, List.getElem?_cons_succ, Option.some.injEq] at h0 h1 h2
  rw [← h0, ← h1, ← h2]
theorem bld34 {c : List Value} (h : cf T.K26 c = true) : quick Tryz.prog (Instr.build 34 ⟨[(0, .int .i64 (intAt c 0)), (1, .int .i64 (intAt c 1)), (2, .bool (boolAt c 2))]⟩) = some (.agg ⟨c⟩) := by
 rw [bld34v, ← acc3 h]
theorem bld36v {a b : Int} : quick Tryz.prog (Instr.build 36 ⟨[(0, .int .i64 a), (1, .int .i64 b)]⟩) = some (.agg ⟨[.int .i64 a, .int .i64 b]⟩) := by kernel_rfl
theorem bld36 {c : List Value} : quick Tryz.prog (Instr.build 36 ⟨[(0, .int .i64 (intAt c 0)), (1, .int .i64 (intAt c 1))]⟩) = some (keyV c) := bld36v
def ok_accs (L : List (List Value)) : Bool := decide (L.length ≤ 1000)
def val_accs (L : List (List Value)) : Value := outV 1 3 L.length
def new_accs (L : List (List Value)) : List (List Value) := outN L.length L.flatten
def spec_accs : Go.AM.Spec := fun us cs => match us, cs with
 | [s_L], [c_L] => if slOk 0 3 c_L s_L && isRows T.K26 c_L && ok_accs (chunks 3 c_L) then some (val_accs (chunks 3 c_L), new_accs (chunks 3 c_L)) else none
 | _, _ => none
def c_accs := flatC [.sl 3] spec_accs
theorem accs_m {s_L : Value} {L : List (List Value)} (hs_L : Sl 0 3 L.length s_L) (h_L : cfs T.K26 L) (hok : ok_accs L = true) : Meets Tryz.prog (.func 6) [s_L] (cheap [L.flatten]) (val_accs L) (rheap [L.flatten] (new_accs L)) := by
 have hP := Fits
 have hC : CallSound Tryz.prog (tabOf []) := tab_sound tab_end
 simp only [ok_accs, Bool.and_eq_true, decide_eq_true_eq] at hok
 have hb := hok
 refine meets_start (sz := 31) hP Tryz.func6 rfl rfl zo (by simp only [Tr.ofList, roRows, Nat.zero_add, Nat.reduceAdd] <;> rfl) zl ?_
 refine k_seq ?_
 refine k_region hP hC ?_
 refine os (x_assign rfl (by rfl)) ?_
 refine o_done ?_
 refine e_seq ?_
 refine k_seq ?_
 refine k_region hP hC ?_
 refine os (x_assign rfl (by rfl)) ?_
 refine o_done ?_
 refine e_seq ?_
 refine k_seq ?_
 refine k_seq ?_
 refine k_region hP hC ?_
 refine os (x_assign rfl (by rfl)) ?_
 refine o_done ?_
 refine e_seq ?_
 refine k_block ?_
 refine k_loop (α := Bool × Int × List (List Value)) (fun z => match z with | (false, i, acc) => cst 31 [0, 3, 4] [s_L, .slice none 0 0, .int .i64 i] [.row L.flatten 0 BIG true L.flatten.length] 1 | (true, i, acc) => cst 31 [0, 3, 4] [s_L, .slice (some ⟨1, 0, none⟩) acc.length (acc.length + 3), .int .i64 i] [.row L.flatten 0 BIG true L.flatten.length, .row acc.flatten 1 BIG false acc.flatten.length] 1) (fun z => match z with | (b, i, acc) => 0 ≤ i ∧ i ≤ L.length ∧ acc = L.take i.toNat ∧ acc.isEmpty = !b ∧ cfs T.K26 acc) (fun z => match z with | (_, i, _) => (L.length - i).toNat) (false, 0, []) (to_mk (L := [0]) (slots := [0, 3, 4]) (w := 1) zr (gcVs_cons zh (gcV_sl hs_L rfl) (gcVs_cons zh (gcV_free rfl) (gcVs_cons zh (gcV_free rfl) gcVs_nil))) (gcH_cons (gcO_old (by rfl) zh) gcH_nil) zr) ⟨by omega, by omega, rfl, rfl, cfs_nil⟩ ?_
 rintro ⟨_ | _, i, acc⟩ ⟨h0, h1, h2, h3, hc⟩
 ·skip
  have hacc : acc = [] := List.isEmpty_iff.1 h3
  refine k_cst zm zo zl ?_
  refine k_seq ?_
  refine k_seq ?_
  refine k_region hP hC ?_
  refine os (x_move rfl zt) ?_
  refine os (x_move rfl zt) ?_
  refine os (x_lenS hs_L rfl rfl zv rfl Tryz.underlying23) ?_
  refine os (x_bin rfl zt zt b_lss) ?_
  refine o_done ?_
  refine e_seq ?_
  refine k_cond zt (fun g2 => ?_) (fun g2 => ?_)
  ·have p2 := g2; try simp only [d1, d2, d3, d4, d5, d6, d7, d8, d9] at p2
   refine k_skip ?_
   refine e_seq ?_
   refine k_seq ?_
   refine k_block ?_
   refine k_draw hP hC zr ?_
   refine ds (x_move rfl zt) ?_
   refine ds (x_move rfl zt) ?_
   refine ds (x_move rfl zt) ?_
   refine ds (x_indexS hs_L rfl zt zt Tryz.underlying23 T.s26 (by omega) (by omega)) ?_
   refine ds (x_field0 rfl zt Tryz.underlying26 rfl T.s3 rfl) ?_
   refine ds (x_load1 rfl zt T.g3 (l_partI0 (K := 3) (whole_row zh rfl) (by assumption) rfl (by omega) (by omega) rfl)) ?_
   refine ds (x_move rfl zt) ?_
   refine ds (x_move rfl zt) ?_
   refine ds (x_indexS hs_L rfl zt zt Tryz.underlying23 T.s26 (by omega) (by omega)) ?_
   refine ds (x_fieldK (a := 1) rfl zt Tryz.underlying26 rfl T.s3 rfl) ?_
   refine ds (x_load1 rfl zt T.g3 (l_partI (a := 1) (K := 3) (whole_row zh rfl) (by assumption) rfl (by omega) (by omega) rfl)) ?_
   refine ds (x_move rfl zt) ?_
   refine ds (x_move rfl zt) ?_
   refine ds (x_indexS hs_L rfl zt zt Tryz.underlying23 T.s26 (by omega) (by omega)) ?_
   refine ds (x_fieldK (a := 2) rfl zt Tryz.underlying26 rfl T.s4 rfl) ?_
   refine ds (x_load1 rfl zt T.g4 (l_partB (a := 2) (K := 3) (whole_row zh rfl) (by assumption) rfl (by omega) (by omega) rfl)) ?_
   refine ds (x_build (v := .agg ⟨nth L i⟩) rfl zp T.z34 rfl (bld34 (cf_nth h_L h0 (by omega)))) ?_
   refine ds (y_bsliceA rfl zt Tryz.underlying28 T.s34 T.z34 (by decide) rfl rfl (cf_len (ks := T.K34) (by first | rfl | exact cf_nth (ks := T.K26) h_L h0 (by omega) | assumption | (apply cf_part; (first | assumption | (exact cf_nth (by assumption) (by omega) (by omega))); rfl) | (exact cf_nth (by assumption) (by omega) (by omega)))) (by decide)) ?_
   refine ds (x_append rfl rfl zv rfl rfl zr (cells_row Tryz.underlying28 T.s34 (l_all (whole_row zh rfl) (by rw [Nat.one_mul]; exact (cf_len (ks := T.K34) (show cf T.K34 _ = true from cf_nth (ks := T.K26) h_L h0 (by omega))).symm))) (ya_nil Tryz.underlying28 T.i28 (by decide) (by rw [Nat.one_mul]; exact (cf_len (ks := T.K34) (show cf T.K34 _ = true from cf_nth (ks := T.K26) h_L h0 (by omega)))) (by decide) (by decide) (cf_oneC (ks := T.K34) (show cf T.K34 _ = true from cf_nth (ks := T.K26) h_L h0 (by omega))) (by decide))) ?_
   refine ds (x_assign rfl zt) ?_
   refine d_done ⟨by kernel_rfl, ?_⟩
   refine e_block ?_
   refine e_seq ?_
   refine k_region hP hC ?_
   refine os (x_move rfl zt) ?_
   refine os (x_bin rfl zt (by rfl) b_add) ?_
   refine os (x_assign rfl zt) ?_
   refine o_done ?_
   refine e_loop ?_
   refine ⟨(true, IntKind.i64.wrap (i + 1), [nth L i]), (to_mk (L := [0, 2]) (slots := [0, 3, 4]) (w := 1) zr (gcVs_cons zh (gcV_sl hs_L rfl) (gcVs_cons zh (gcV_slice rfl) (gcVs_cons zh (gcV_free rfl) gcVs_nil))) (gcH_cons (gcO_old (by rfl) zh) (gcH_cons (gcO_rowE (by rfl) zh (gcD_free (cf_free1 (ks := T.K26) (by first | exact cf_nth (ks := T.K26) h_L h0 (by omega) | assumption | (apply cf_part; (first | assumption | (exact cf_nth (by assumption) (by omega) (by omega))); rfl) | (exact cf_nth (by assumption) (by omega) (by omega))))) (by simp only [List.flatten_append, List.flatten_cons, List.flatten_nil, List.append_nil, List.nil_append])) gcH_nil)) zr), ?_, ?_⟩
   ·rw [wr1 (by omega) (by omega)]; refine ⟨by omega, by omega, ?_, ?_, ?_⟩
    ·rw [take_nextR h0 (by omega), ← h2]; rw [hacc]; rfl
    ·rfl
    ·exact cfs_one (by first | exact cf_nth (ks := T.K26) h_L h0 (by omega) | assumption | (apply cf_part; (first | assumption | (exact cf_nth (by assumption) (by omega) (by omega))); rfl) | (exact cf_nth (by assumption) (by omega) (by omega)))
   ·show (L.length - IntKind.i64.wrap (i + 1)).toNat < (L.length - i).toNat; rw [wr1 (by omega) (by omega)]; omega
  ·have p2 := g2; try simp only [d1, d2, d3, d4, d5, d6, d7, d8, d9] at p2
   refine k_exit ?_
   refine e_seq_exit ?_
   refine e_loop_exit ?_
   refine e_block_eq ?_
   refine e_seq ?_
   refine k_seq ?_
   refine k_region hP hC ?_
   refine os (x_move rfl zt) ?_
   refine os (x_assign rfl zt) ?_
   refine o_done ?_
   refine e_seq ?_
   refine k_ret ?_
   rw [take_end (by omega)] at h2
   unfold val_accs new_accs
   rw [← h2]
   rw [hacc]
   refine gives_mk (L := [0]) (slots := [2]) (w := 1) (.inr rfl) zr (gcVs_cons zh (gcV_free rfl) gcVs_nil) (gcH_cons (gcO_old (by rfl) zh) gcH_nil) zr (by simp only [Tryz.results6, resA, cst, mkE, Tr.get_set, reduceIte, Nat.reduceEqDiff, Nat.reduceAdd] <;> rfl) ?_
   rfl
 ·skip
  have hal : acc.length ≤ L.length := by rw [h2, List.length_take]; omega
  refine k_cst zm zo zl ?_
  refine k_seq ?_
  refine k_seq ?_
  refine k_region hP hC ?_
  refine os (x_move rfl zt) ?_
  refine os (x_move rfl zt) ?_
  refine os (x_lenS hs_L rfl rfl zv rfl Tryz.underlying23) ?_
  refine os (x_bin rfl zt zt b_lss) ?_
  refine o_done ?_
  refine e_seq ?_
  refine k_cond zt (fun g5 => ?_) (fun g5 => ?_)
  ·have p5 := g5; try simp only [d1, d2, d3, d4, d5, d6, d7, d8, d9] at p5
   refine k_skip ?_
   refine e_seq ?_
   refine k_seq ?_
   refine k_block ?_
   refine k_draw hP hC zr ?_
   refine ds (x_move rfl zt) ?_
   refine ds (x_move rfl zt) ?_
   refine ds (x_move rfl zt) ?_
   refine ds (x_indexS hs_L rfl zt zt Tryz.underlying23 T.s26 (by omega) (by omega)) ?_
   refine ds (x_field0 rfl zt Tryz.underlying26 rfl T.s3 rfl) ?_
   refine ds (x_load1 rfl zt T.g3 (l_partI0 (K := 3) (whole_row zh rfl) (by assumption) rfl (by omega) (by omega) rfl)) ?_
   refine ds (x_move rfl zt) ?_
   refine ds (x_move rfl zt) ?_
   refine ds (x_indexS hs_L rfl zt zt Tryz.underlying23 T.s26 (by omega) (by omega)) ?_
   refine ds (x_fieldK (a := 1) rfl zt Tryz.underlying26 rfl T.s3 rfl) ?_
   refine ds (x_load1 rfl zt T.g3 (l_partI (a := 1) (K := 3) (whole_row zh rfl) (by assumption) rfl (by omega) (by omega) rfl)) ?_
   refine ds (x_move rfl zt) ?_
   refine ds (x_move rfl zt) ?_
   refine ds (x_indexS hs_L rfl zt zt Tryz.underlying23 T.s26 (by omega) (by omega)) ?_
   refine ds (x_fieldK (a := 2) rfl zt Tryz.underlying26 rfl T.s4 rfl) ?_
   refine ds (x_load1 rfl zt T.g4 (l_partB (a := 2) (K := 3) (whole_row zh rfl) (by assumption) rfl (by omega) (by omega) rfl)) ?_
   refine ds (x_build (v := .agg ⟨nth L i⟩) rfl zp T.z34 rfl (bld34 (cf_nth h_L h0 (by omega)))) ?_
   refine ds (y_bsliceA rfl zt Tryz.underlying28 T.s34 T.z34 (by decide) rfl rfl (cf_len (ks := T.K34) (by first | rfl | exact cf_nth (ks := T.K26) h_L h0 (by omega) | assumption | (apply cf_part; (first | assumption | (exact cf_nth (by assumption) (by omega) (by omega))); rfl) | (exact cf_nth (by assumption) (by omega) (by omega)))) (by decide)) ?_
   refine ds (x_append rfl rfl zv rfl rfl zr (cells_row Tryz.underlying28 T.s34 (l_all (whole_row zh rfl) (by rw [Nat.one_mul]; exact (cf_len (ks := T.K34) (show cf T.K34 _ = true from cf_nth (ks := T.K26) h_L h0 (by omega))).symm))) (ya_own Tryz.underlying28 T.i28 (by decide) (by rw [Nat.one_mul]; exact (cf_len (ks := T.K34) (show cf T.K34 _ = true from cf_nth (ks := T.K26) h_L h0 (by omega)))) (by omega) (by unfold BIG; omega) (cf_oneC (ks := T.K34) (show cf T.K34 _ = true from cf_nth (ks := T.K26) h_L h0 (by omega))) (by decide) zh rfl (cfs_len hc))) ?_
   refine ds (x_assign rfl zt) ?_
   refine d_done ⟨by kernel_rfl, ?_⟩
   refine e_block ?_
   refine e_seq ?_
   refine k_region hP hC ?_
   refine os (x_move rfl zt) ?_
   refine os (x_bin rfl zt (by rfl) b_add) ?_
   refine os (x_assign rfl zt) ?_
   refine o_done ?_
   refine e_loop ?_
   refine ⟨(true, IntKind.i64.wrap (i + 1), (acc ++ [nth L i])), (to_mk (L := [0, 3]) (slots := [0, 3, 4]) (w := 1) zr (gcVs_cons zh (gcV_sl hs_L rfl) (gcVs_cons zh (gcV_sliceE rfl (by simp)) (gcVs_cons zh (gcV_free rfl) gcVs_nil))) (gcH_cons (gcO_old (by rfl) zh) (gcH_cons (gcO_aliasE (by rfl) zh zh (gcD_free (by rw [List.all_append, cfs_free1 hc]; simp only [Bool.true_and]; exact cf_free1 (ks := T.K26) zc)) (by simp only [List.flatten_append, List.flatten_cons, List.flatten_nil, List.append_nil, List.nil_append])) gcH_nil)) zr), ?_, ?_⟩
   ·rw [wr1 (by omega) (by omega)]; refine ⟨by omega, by omega, ?_, ?_, ?_⟩
    ·rw [take_nextR h0 (by omega), ← h2]
    ·simp
    ·exact cfs_append hc (cfs_one (by first | exact cf_nth (ks := T.K26) h_L h0 (by omega) | assumption | (apply cf_part; (first | assumption | (exact cf_nth (by assumption) (by omega) (by omega))); rfl) | (exact cf_nth (by assumption) (by omega) (by omega))))
   ·show (L.length - IntKind.i64.wrap (i + 1)).toNat < (L.length - i).toNat; rw [wr1 (by omega) (by omega)]; omega
  ·have p5 := g5; try simp only [d1, d2, d3, d4, d5, d6, d7, d8, d9] at p5
   refine k_exit ?_
   refine e_seq_exit ?_
   refine e_loop_exit ?_
   refine e_block_eq ?_
   refine e_seq ?_
   refine k_seq ?_
   refine k_region hP hC ?_
   refine os (x_move rfl zt) ?_
   refine os (x_assign rfl zt) ?_
   refine o_done ?_
   refine e_seq ?_
   refine k_ret ?_
   rw [take_end (by omega)] at h2
   unfold val_accs new_accs
   rw [← h2]
   have hne : acc.length ≠ 0 := by intro e; have e2 := List.eq_nil_of_length_eq_zero e; subst e2; cases h3
   rw [outV_ne hne, outN_ne hne]
   refine gives_mk (L := [0, 1]) (slots := [2]) (w := 1) (.inr rfl) zr (gcVs_cons zh (gcV_slice rfl) gcVs_nil) (gcH_cons (gcO_old (by rfl) zh) (gcH_cons (gcO_row (by rfl) zh (gcD_free (cfs_free1 hc))) gcH_nil)) zr (by simp only [Tryz.results6, resA, cst, mkE, Tr.get_set, reduceIte, Nat.reduceEqDiff, Nat.reduceAdd] <;> rfl) ?_
   rfl
theorem con_accs : Con Tryz.prog 6 c_accs := con_flat Tryz.func6 rfl fun us cs v new h => by
 unfold spec_accs at h
 split at h
 case h_2 => cases h
 rename_i s_L c_L
 split at h
 case isFalse => cases h
 rename_i hc
 try simp only [Bool.and_eq_true] at hc
 obtain ⟨⟨q_L, r_L⟩, hok⟩ := hc
 cases h
 obtain ⟨h_L, e_L⟩ := isRows_cfs (by decide) r_L
 have hs_L := slOk_sl (n := (chunks 3 c_L).length) q_L (by decide) (rows_len (ks := T.K26) (by decide) r_L)
 have key := accs_m hs_L h_L hok
 have hrows : [(chunks T.K26.length c_L).flatten] = [c_L] := by rw [e_L]
 rw [← hrows]
 exact key
theorem accs_c {H : AH} {s_L : Value} {L : List (List Value)} (hr_L : Rd H 3 s_L L.length L.flatten) (h_L : cfs T.K26 L) (hok : ok_accs L = true) : c_accs [s_L] H = some (outV H.next 3 L.length, addRows H (outN L.length L.flatten)) := by
 obtain ⟨u_L, a_L, b_L⟩ := hr_L 0
 have k_L := isRows_flat (by decide) h_L
 have k2_L : chunks 3 L.flatten = L := k_L.2
 exact flatC_at (v := val_accs L) (new := new_accs L) (cl_sl a_L cl_nil) (by simp only [spec_accs, sl_slOk b_L (cfs_len h_L), k_L.1, k2_L, hok, Bool.and_self, if_true]) (by unfold new_accs outN; split; rfl; simp only [List.all_cons, List.all_nil, Bool.and_true]; exact cfs_free0 h_L) (out_gc)
def ok_refApart (L : List (List Value)) (M : List (List Value)) : Bool := decide (L.length ≤ 1000) && decide (M.length ≤ 1000)
def val_refApart (L : List (List Value)) (M : List (List Value)) : Value := .bool (apB L M)
def new_refApart (L : List (List Value)) (M : List (List Value)) : List (List Value) := []
def spec_refApart : Go.AM.Spec := fun us cs => match us, cs with
 | [s_L, s_M], [c_L, c_M] => if slOk 0 3 c_L s_L && isRows T.K26 c_L && slOk 1 3 c_M s_M && isRows T.K26 c_M && ok_refApart (chunks 3 c_L) (chunks 3 c_M) then some (val_refApart (chunks 3 c_L) (chunks 3 c_M), new_refApart (chunks 3 c_L) (chunks 3 c_M)) else none
 | _, _ => none
def c_refApart := flatC [.sl 3, .sl 3] spec_refApart
theorem refApart_m {s_L : Value} {s_M : Value} {L : List (List Value)} {M : List (List Value)} (hs_L : Sl 0 3 L.length s_L) (h_L : cfs T.K26 L) (hs_M : Sl 1 3 M.length s_M) (h_M : cfs T.K26 M) (hok : ok_refApart L M = true) : Meets Tryz.prog (.func 7) [s_L, s_M] (cheap [L.flatten, M.flatten]) (val_refApart L M) (rheap [L.flatten, M.flatten] (new_refApart L M)) := by
 have hP := Fits
 have hC : CallSound Tryz.prog (tabOf []) := tab_sound tab_end
 simp only [ok_refApart, Bool.and_eq_true, decide_eq_true_eq] at hok
 obtain ⟨hA, hB⟩ := hok
 refine meets_start (sz := 76) hP Tryz.func7 rfl rfl zo (by simp only [Tr.ofList, roRows, Nat.zero_add, Nat.reduceAdd] <;> rfl) zl ?_
 refine k_seq ?_
 refine k_region hP hC ?_
 refine os (x_assign rfl (by rfl)) ?_
 refine o_done ?_
 refine e_seq ?_
 refine k_seq ?_
 refine k_seq ?_
 refine k_region hP hC ?_
 refine os (x_assign rfl (by rfl)) ?_
 refine o_done ?_
 refine e_seq ?_
 refine k_block ?_
 refine k_loop (α := Int) (fun i => cst 76 [0, 1, 5] [s_L, s_M, .int .i64 i] [.row L.flatten 0 BIG true L.flatten.length, .row M.flatten 1 BIG true M.flatten.length] 2) (fun i => 0 ≤ i ∧ i ≤ L.length ∧ (L.take i.toNat).all (fun x => !clk x) = true ∧ (L.take i.toNat).all (fun x => M.all fun y => !conf x y) = true) (fun i => (L.length - i).toNat) 0 (to_mk (L := [0, 1]) (slots := [0, 1, 5]) (w := 2) zr (gcVs_cons zh (gcV_sl hs_L rfl) (gcVs_cons zh (gcV_sl hs_M rfl) (gcVs_cons zh (gcV_free rfl) gcVs_nil))) (gcH_cons (gcO_old (by rfl) zh) (gcH_cons (gcO_old (by rfl) zh) gcH_nil)) zr) ⟨by omega, by omega, rfl, rfl⟩ ?_
 rintro i ⟨h0, h1, h2, h3⟩
 refine k_cst zm zo zl ?_
 refine k_seq ?_
 refine k_seq ?_
 refine k_region hP hC ?_
 refine os (x_move rfl zt) ?_
 refine os (x_move rfl zt) ?_
 refine os (x_lenS hs_L rfl rfl zv rfl Tryz.underlying23) ?_
 refine os (x_bin rfl zt zt b_lss) ?_
 refine o_done ?_
 refine e_seq ?_
 refine k_cond zt (fun g2 => ?_) (fun g2 => ?_)
 ·have p2 := g2; try simp only [d1, d2, d3, d4, d5, d6, d7, d8, d9] at p2
  refine k_skip ?_
  refine e_seq ?_
  refine k_seq ?_
  refine k_block ?_
  refine k_seq ?_
  refine k_seq ?_
  refine k_region hP hC ?_
  refine os (x_move rfl zt) ?_
  refine os (x_move rfl zt) ?_
  refine os (x_indexS hs_L rfl zt zt Tryz.underlying23 T.s26 (by omega) (by omega)) ?_
  refine os (x_field0 rfl zt Tryz.underlying26 rfl T.s3 rfl) ?_
  refine os (x_load1 rfl zt T.g3 (l_partI0 (K := 3) (whole_row zh rfl) (by assumption) rfl (by omega) (by omega) rfl)) ?_
  refine os (x_bin rfl zt (by rfl) b_eql) ?_
  refine o_done ?_
  refine e_seq ?_
  refine k_cond (by simp only [Tr.get_set, reduceIte, Nat.reduceEqDiff, Nat.reduceAdd, ev_tmp, g2] <;> rfl) (fun g4 => ?_) (fun g4 => ?_)
  ·have p4 := g4; try simp only [d1, d2, d3, d4, d5, d6, d7, d8, d9] at p4
   refine k_seq ?_
   refine k_region hP hC ?_
   refine os (x_assign rfl (by rfl)) ?_
   refine o_done ?_
   refine e_seq ?_
   refine k_ret ?_
   refine e_seq_ret ?_
   refine e_block_ret ?_
   refine e_seq_ret ?_
   refine e_loop_ret ?_
   refine e_block_ret ?_
   refine e_seq_ret ?_
   refine gives_mk (L := [0, 1]) (slots := [4]) (w := 2) (.inr rfl) zr (gcVs_cons zh (gcV_free rfl) gcVs_nil) (gcH_cons (gcO_old (by rfl) zh) (gcH_cons (gcO_old (by rfl) zh) gcH_nil)) zr (by simp only [Tryz.results7, resA, cst, mkE, Tr.get_set, reduceIte, Nat.reduceEqDiff, Nat.reduceAdd] <;> rfl) ?_
   simp only [one, val_refApart]
   first
    | rw [ap_clkA h0 (by omega) (by assumption)]
    | rw [ap_clkB k0 (by omega) (by assumption)]
    | rw [ap_true (all_end (by omega) h2) (all_end (by omega) k2) (all_end (f := fun x => M.all fun y => !conf x y) (by omega) h3)]
    | rw [ap_conf (i := i) (k := k) h0 (by omega) j0 (by omega) (by unfold conf kd ob chg; simp only [p2, p4, decide_true, Bool.true_and, Bool.true_or, Bool.or_true])]
  ·have p4 := g4; try simp only [d1, d2, d3, d4, d5, d6, d7, d8, d9] at p4
   refine k_skip ?_
   refine e_seq ?_
   refine k_seq ?_
   refine k_region hP hC ?_
   refine os (x_assign rfl (by rfl)) ?_
   refine o_done ?_
   refine e_seq ?_
   refine k_block ?_
   refine k_loop (α := Int) (fun k => cst 76 [0, 1, 5, 6] [s_L, s_M, .int .i64 i, .int .i64 k] [.row L.flatten 0 BIG true L.flatten.length, .row M.flatten 1 BIG true M.flatten.length] 2) (fun k => 0 ≤ k ∧ k ≤ M.length ∧ (M.take k.toNat).all (fun y => !conf (nth L i) y) = true) (fun k => (M.length - k).toNat) 0 (to_mk (L := [0, 1]) (slots := [0, 1, 5, 6]) (w := 2) zr (gcVs_cons zh (gcV_sl hs_L rfl) (gcVs_cons zh (gcV_sl hs_M rfl) (gcVs_cons zh (gcV_free rfl) (gcVs_cons zh (gcV_free rfl) gcVs_nil)))) (gcH_cons (gcO_old (by rfl) zh) (gcH_cons (gcO_old (by rfl) zh) gcH_nil)) zr) ⟨by omega, by omega, rfl⟩ ?_
   rintro k ⟨j0, j1, j2⟩
   refine k_cst zm zo zl ?_
   refine k_seq ?_
   refine k_seq ?_
   refine k_region hP hC ?_
   refine os (x_move rfl zt) ?_
   refine os (x_move rfl zt) ?_
   refine os (x_lenS hs_M rfl rfl zv rfl Tryz.underlying23) ?_
   refine os (x_bin rfl zt zt b_lss) ?_
   refine o_done ?_
   refine e_seq ?_
   refine k_cond zt (fun g6 => ?_) (fun g6 => ?_)
   ·have p6 := g6; try simp only [d1, d2, d3, d4, d5, d6, d7, d8, d9] at p6
    refine k_skip ?_
    refine e_seq ?_
    refine k_seq ?_
    refine k_block ?_
    refine k_seq ?_
    refine k_draw hP hC zr ?_
    refine ds (x_move rfl zt) ?_
    refine ds (x_move rfl zt) ?_
    refine ds (x_indexS hs_L rfl zt zt Tryz.underlying23 T.s26 (by omega) (by omega)) ?_
    refine ds (x_field0 rfl zt Tryz.underlying26 rfl T.s3 rfl) ?_
    refine ds (x_load1 rfl zt T.g3 (l_partI0 (K := 3) (whole_row zh rfl) (by assumption) rfl (by omega) (by omega) rfl)) ?_
    refine ds (x_move rfl zt) ?_
    refine ds (x_move rfl zt) ?_
    refine ds (x_indexS hs_M rfl zt zt Tryz.underlying23 T.s26 (by omega) (by omega)) ?_
    refine ds (x_field0 rfl zt Tryz.underlying26 rfl T.s3 rfl) ?_
    refine ds (x_load1 rfl zt T.g3 (l_partI0 (K := 3) (whole_row zh rfl) (by assumption) rfl (by omega) (by omega) rfl)) ?_
    refine ds (x_bin rfl zt zt b_eql) ?_
    refine ds (x_move rfl zt) ?_
    refine d_guard rfl rfl zh (fun g8 => ?_) (fun g8 => ?_)
    ·have p8 := g8; try simp only [d1, d2, d3, d4, d5, d6, d7, d8, d9] at p8
     refine d_step (wA_on rfl rfl (by simp only [Tr.get_set, reduceIte, Nat.reduceEqDiff, Nat.reduceAdd, g6, g8] <;> rfl)) rfl (x_move rfl zt) (by decide) ?_
     refine d_step (wA_on rfl rfl (by simp only [Tr.get_set, reduceIte, Nat.reduceEqDiff, Nat.reduceAdd, g6, g8] <;> rfl)) rfl (x_move rfl zt) (by decide) ?_
     refine d_step (wA_on rfl rfl (by simp only [Tr.get_set, reduceIte, Nat.reduceEqDiff, Nat.reduceAdd, g6, g8] <;> rfl)) rfl (x_indexS hs_L rfl zt zt Tryz.underlying23 T.s26 (by omega) (by omega)) (by decide) ?_
     refine d_step (wA_on rfl rfl (by simp only [Tr.get_set, reduceIte, Nat.reduceEqDiff, Nat.reduceAdd, g6, g8] <;> rfl)) rfl (x_fieldK (a := 1) rfl zt Tryz.underlying26 rfl T.s3 rfl) (by decide) ?_
     refine d_step (wA_on rfl rfl (by simp only [Tr.get_set, reduceIte, Nat.reduceEqDiff, Nat.reduceAdd, g6, g8] <;> rfl)) rfl (x_load1 rfl zt T.g3 (l_partI (a := 1) (K := 3) (whole_row zh rfl) (by assumption) rfl (by omega) (by omega) rfl)) (by decide) ?_
     refine d_step (wA_on rfl rfl (by simp only [Tr.get_set, reduceIte, Nat.reduceEqDiff, Nat.reduceAdd, g6, g8] <;> rfl)) rfl (x_move rfl zt) (by decide) ?_
     refine d_step (wA_on rfl rfl (by simp only [Tr.get_set, reduceIte, Nat.reduceEqDiff, Nat.reduceAdd, g6, g8] <;> rfl)) rfl (x_move rfl zt) (by decide) ?_
     refine d_step (wA_on rfl rfl (by simp only [Tr.get_set, reduceIte, Nat.reduceEqDiff, Nat.reduceAdd, g6, g8] <;> rfl)) rfl (x_indexS hs_M rfl zt zt Tryz.underlying23 T.s26 (by omega) (by omega)) (by decide) ?_
     refine d_step (wA_on rfl rfl (by simp only [Tr.get_set, reduceIte, Nat.reduceEqDiff, Nat.reduceAdd, g6, g8] <;> rfl)) rfl (x_fieldK (a := 1) rfl zt Tryz.underlying26 rfl T.s3 rfl) (by decide) ?_
     refine d_step (wA_on rfl rfl (by simp only [Tr.get_set, reduceIte, Nat.reduceEqDiff, Nat.reduceAdd, g6, g8] <;> rfl)) rfl (x_load1 rfl zt T.g3 (l_partI (a := 1) (K := 3) (whole_row zh rfl) (by assumption) rfl (by omega) (by omega) rfl)) (by decide) ?_
     refine d_step (wA_on rfl rfl (by simp only [Tr.get_set, reduceIte, Nat.reduceEqDiff, Nat.reduceAdd, g6, g8] <;> rfl)) rfl (x_bin rfl zt zt b_eql) (by decide) ?_
     refine ds (x_pick rfl (by simp only [Tr.get_set, reduceIte, Nat.reduceEqDiff, Nat.reduceAdd, ev_tmp, g6, g8] <;> rfl) (by simp only [if_true, if_false, Bool.false_eq_true, ev_tmp, Tr.get_set, reduceIte, Nat.reduceEqDiff, Nat.reduceAdd, g6, g8]; rfl)) ?_
     refine ds (x_move rfl zt) ?_
     refine d_guard rfl rfl zh (fun g10 => ?_) (fun g10 => ?_)
     ·have p10 := g10; try simp only [d1, d2, d3, d4, d5, d6, d7, d8, d9] at p10
      refine d_step (wA_on rfl rfl (by simp only [Tr.get_set, reduceIte, Nat.reduceEqDiff, Nat.reduceAdd, g6, g8, g10] <;> rfl)) rfl (x_move rfl zt) (by decide) ?_
      refine d_step (wA_on rfl rfl (by simp only [Tr.get_set, reduceIte, Nat.reduceEqDiff, Nat.reduceAdd, g6, g8, g10] <;> rfl)) rfl (x_move rfl zt) (by decide) ?_
      refine d_step (wA_on rfl rfl (by simp only [Tr.get_set, reduceIte, Nat.reduceEqDiff, Nat.reduceAdd, g6, g8, g10] <;> rfl)) rfl (x_indexS hs_L rfl zt zt Tryz.underlying23 T.s26 (by omega) (by omega)) (by decide) ?_
      refine d_step (wA_on rfl rfl (by simp only [Tr.get_set, reduceIte, Nat.reduceEqDiff, Nat.reduceAdd, g6, g8, g10] <;> rfl)) rfl (x_fieldK (a := 2) rfl zt Tryz.underlying26 rfl T.s4 rfl) (by decide) ?_
      refine d_step (wA_on rfl rfl (by simp only [Tr.get_set, reduceIte, Nat.reduceEqDiff, Nat.reduceAdd, g6, g8, g10] <;> rfl)) rfl (x_load1 rfl zt T.g4 (l_partB (a := 2) (K := 3) (whole_row zh rfl) (by assumption) rfl (by omega) (by omega) rfl)) (by decide) ?_
      refine d_step (wA_on rfl rfl (by simp only [Tr.get_set, reduceIte, Nat.reduceEqDiff, Nat.reduceAdd, g6, g8, g10] <;> rfl)) rfl (x_move rfl zt) (by decide) ?_
      refine d_guard rfl rfl zh (fun g12 => ?_) (fun g12 => ?_)
      ·have p12 := g12; try simp only [d1, d2, d3, d4, d5, d6, d7, d8, d9] at p12
       refine d_skip (wA_off rfl rfl (by simp only [Tr.get_set, reduceIte, Nat.reduceEqDiff, Nat.reduceAdd, g6, g8, g10, g12] <;> rfl)) rfl (by decide) ?_
       refine d_skip (wA_off rfl rfl (by simp only [Tr.get_set, reduceIte, Nat.reduceEqDiff, Nat.reduceAdd, g6, g8, g10, g12] <;> rfl)) rfl (by decide) ?_
       refine d_skip (wA_off rfl rfl (by simp only [Tr.get_set, reduceIte, Nat.reduceEqDiff, Nat.reduceAdd, g6, g8, g10, g12] <;> rfl)) rfl (by decide) ?_
       refine d_skip (wA_off rfl rfl (by simp only [Tr.get_set, reduceIte, Nat.reduceEqDiff, Nat.reduceAdd, g6, g8, g10, g12] <;> rfl)) rfl (by decide) ?_
       refine d_skip (wA_off rfl rfl (by simp only [Tr.get_set, reduceIte, Nat.reduceEqDiff, Nat.reduceAdd, g6, g8, g10, g12] <;> rfl)) rfl (by decide) ?_
       refine d_step (wA_on rfl rfl (by simp only [Tr.get_set, reduceIte, Nat.reduceEqDiff, Nat.reduceAdd, g6, g8, g10, g12] <;> rfl)) rfl (x_pick rfl (by simp only [Tr.get_set, reduceIte, Nat.reduceEqDiff, Nat.reduceAdd, ev_tmp, g6, g8, g10, g12] <;> rfl) (by simp only [if_true, if_false, Bool.false_eq_true, ev_tmp, Tr.get_set, reduceIte, Nat.reduceEqDiff, Nat.reduceAdd, g6, g8, g10, g12]; rfl)) (by decide) ?_
       refine ds (x_pick rfl (by simp only [Tr.get_set, reduceIte, Nat.reduceEqDiff, Nat.reduceAdd, ev_tmp, g6, g8, g10, g12] <;> rfl) (by simp only [if_true, if_false, Bool.false_eq_true, ev_tmp, Tr.get_set, reduceIte, Nat.reduceEqDiff, Nat.reduceAdd, g6, g8, g10, g12]; rfl)) ?_
       refine d_done ⟨by kernel_rfl, ?_⟩
       refine e_seq ?_
       refine k_condT (by simp only [Tr.get_set, reduceIte, Nat.reduceEqDiff, Nat.reduceAdd, ev_tmp, g6, g8, g10, g12] <;> rfl) ?_
       refine k_seq ?_
       refine k_region hP hC ?_
       refine os (x_assign rfl (by rfl)) ?_
       refine o_done ?_
       refine e_seq ?_
       refine k_ret ?_
       refine e_block_ret ?_
       refine e_seq_ret ?_
       refine e_loop_ret ?_
       refine e_block_ret ?_
       refine e_block_ret ?_
       refine e_seq_ret ?_
       refine e_loop_ret ?_
       refine e_block_ret ?_
       refine e_seq_ret ?_
       refine gives_mk (L := [0, 1]) (slots := [4]) (w := 2) (.inr rfl) zr (gcVs_cons zh (gcV_free rfl) gcVs_nil) (gcH_cons (gcO_old (by rfl) zh) (gcH_cons (gcO_old (by rfl) zh) gcH_nil)) zr (by simp only [Tryz.results7, resA, cst, mkE, Tr.get_set, reduceIte, Nat.reduceEqDiff, Nat.reduceAdd] <;> rfl) ?_
       simp only [one, val_refApart]
       first
        | rw [ap_clkA h0 (by omega) (by assumption)]
        | rw [ap_clkB k0 (by omega) (by assumption)]
        | rw [ap_true (all_end (by omega) h2) (all_end (by omega) k2) (all_end (f := fun x => M.all fun y => !conf x y) (by omega) h3)]
        | rw [ap_conf (i := i) (k := k) h0 (by omega) j0 (by omega) (by unfold conf kd ob chg; simp only [p6, p8, p10, p12, decide_true, Bool.true_and, Bool.true_or, Bool.or_true])]
      ·have p12 := g12; try simp only [d1, d2, d3, d4, d5, d6, d7, d8, d9] at p12
       refine d_step (wA_on rfl rfl (by simp only [Tr.get_set, reduceIte, Nat.reduceEqDiff, Nat.reduceAdd, g6, g8, g10, g12] <;> rfl)) rfl (x_move rfl zt) (by decide) ?_
       refine d_step (wA_on rfl rfl (by simp only [Tr.get_set, reduceIte, Nat.reduceEqDiff, Nat.reduceAdd, g6, g8, g10, g12] <;> rfl)) rfl (x_move rfl zt) (by decide) ?_
       refine d_step (wA_on rfl rfl (by simp only [Tr.get_set, reduceIte, Nat.reduceEqDiff, Nat.reduceAdd, g6, g8, g10, g12] <;> rfl)) rfl (x_indexS hs_M rfl zt zt Tryz.underlying23 T.s26 (by omega) (by omega)) (by decide) ?_
       refine d_step (wA_on rfl rfl (by simp only [Tr.get_set, reduceIte, Nat.reduceEqDiff, Nat.reduceAdd, g6, g8, g10, g12] <;> rfl)) rfl (x_fieldK (a := 2) rfl zt Tryz.underlying26 rfl T.s4 rfl) (by decide) ?_
       refine d_step (wA_on rfl rfl (by simp only [Tr.get_set, reduceIte, Nat.reduceEqDiff, Nat.reduceAdd, g6, g8, g10, g12] <;> rfl)) rfl (x_load1 rfl zt T.g4 (l_partB (a := 2) (K := 3) (whole_row zh rfl) (by assumption) rfl (by omega) (by omega) rfl)) (by decide) ?_
       refine d_step (wA_on rfl rfl (by simp only [Tr.get_set, reduceIte, Nat.reduceEqDiff, Nat.reduceAdd, g6, g8, g10, g12] <;> rfl)) rfl (x_pick rfl (by simp only [Tr.get_set, reduceIte, Nat.reduceEqDiff, Nat.reduceAdd, ev_tmp, g6, g8, g10, g12] <;> rfl) (by simp only [if_true, if_false, Bool.false_eq_true, ev_tmp, Tr.get_set, reduceIte, Nat.reduceEqDiff, Nat.reduceAdd, g6, g8, g10, g12]; rfl)) (by decide) ?_
       refine ds (x_pick rfl (by simp only [Tr.get_set, reduceIte, Nat.reduceEqDiff, Nat.reduceAdd, ev_tmp, g6, g8, g10, g12] <;> rfl) (by simp only [if_true, if_false, Bool.false_eq_true, ev_tmp, Tr.get_set, reduceIte, Nat.reduceEqDiff, Nat.reduceAdd, g6, g8, g10, g12]; rfl)) ?_
       refine d_done ⟨by kernel_rfl, ?_⟩
       refine e_seq ?_
       refine k_cond (by simp only [Tr.get_set, reduceIte, Nat.reduceEqDiff, Nat.reduceAdd, ev_tmp, g6, g8, g10, g12] <;> rfl) (fun g14 => ?_) (fun g14 => ?_)
       ·have p14 := g14; try simp only [d1, d2, d3, d4, d5, d6, d7, d8, d9] at p14
        refine k_seq ?_
        refine k_region hP hC ?_
        refine os (x_assign rfl (by rfl)) ?_
        refine o_done ?_
        refine e_seq ?_
        refine k_ret ?_
        refine e_block_ret ?_
        refine e_seq_ret ?_
        refine e_loop_ret ?_
        refine e_block_ret ?_
        refine e_block_ret ?_
        refine e_seq_ret ?_
        refine e_loop_ret ?_
        refine e_block_ret ?_
        refine e_seq_ret ?_
        refine gives_mk (L := [0, 1]) (slots := [4]) (w := 2) (.inr rfl) zr (gcVs_cons zh (gcV_free rfl) gcVs_nil) (gcH_cons (gcO_old (by rfl) zh) (gcH_cons (gcO_old (by rfl) zh) gcH_nil)) zr (by simp only [Tryz.results7, resA, cst, mkE, Tr.get_set, reduceIte, Nat.reduceEqDiff, Nat.reduceAdd] <;> rfl) ?_
        simp only [one, val_refApart]
        first
         | rw [ap_clkA h0 (by omega) (by assumption)]
         | rw [ap_clkB k0 (by omega) (by assumption)]
         | rw [ap_true (all_end (by omega) h2) (all_end (by omega) k2) (all_end (f := fun x => M.all fun y => !conf x y) (by omega) h3)]
         | rw [ap_conf (i := i) (k := k) h0 (by omega) j0 (by omega) (by unfold conf kd ob chg; simp only [p6, p8, p10, p12, p14, decide_true, Bool.true_and, Bool.true_or, Bool.or_true])]
       ·have p14 := g14; try simp only [d1, d2, d3, d4, d5, d6, d7, d8, d9] at p14
        refine k_skip ?_
        refine e_block ?_
        refine e_seq ?_
        refine k_region hP hC ?_
        refine os (x_move rfl zt) ?_
        refine os (x_bin rfl zt (by rfl) b_add) ?_
        refine os (x_assign rfl zt) ?_
        refine o_done ?_
        refine e_loop ?_
        refine ⟨IntKind.i64.wrap (k + 1), (to_mk (L := [0, 1]) (slots := [0, 1, 5, 6]) (w := 2) zr (gcVs_cons zh (gcV_sl hs_L rfl) (gcVs_cons zh (gcV_sl hs_M rfl) (gcVs_cons zh (gcV_free rfl) (gcVs_cons zh (gcV_free rfl) gcVs_nil)))) (gcH_cons (gcO_old (by rfl) zh) (gcH_cons (gcO_old (by rfl) zh) gcH_nil)) zr), ?_, ?_⟩
        ·rw [wr1 (by omega) (by omega)]; exact ⟨by omega, by omega, all_next (f := fun y => !conf (nth L i) y) j0 (by omega) j2 (by unfold conf kd ob chg; simp only [p6, p8, p10, p12, p14, decide_true, decide_false, Bool.true_and, Bool.and_true, Bool.false_and, Bool.and_false, Bool.not_false, Bool.or_false, Bool.or_self])⟩
        ·rw [wr1 (by omega) (by omega)]; omega
     ·have p10 := g10; try simp only [d1, d2, d3, d4, d5, d6, d7, d8, d9] at p10
      refine d_skip (wA_off rfl rfl (by simp only [Tr.get_set, reduceIte, Nat.reduceEqDiff, Nat.reduceAdd, g6, g8, g10] <;> rfl)) rfl (by decide) ?_
      refine d_skip (wA_off rfl rfl (by simp only [Tr.get_set, reduceIte, Nat.reduceEqDiff, Nat.reduceAdd, g6, g8, g10] <;> rfl)) rfl (by decide) ?_
      refine d_skip (wA_off rfl rfl (by simp only [Tr.get_set, reduceIte, Nat.reduceEqDiff, Nat.reduceAdd, g6, g8, g10] <;> rfl)) rfl (by decide) ?_
      refine d_skip (wA_off rfl rfl (by simp only [Tr.get_set, reduceIte, Nat.reduceEqDiff, Nat.reduceAdd, g6, g8, g10] <;> rfl)) rfl (by decide) ?_
      refine d_skip (wA_off rfl rfl (by simp only [Tr.get_set, reduceIte, Nat.reduceEqDiff, Nat.reduceAdd, g6, g8, g10] <;> rfl)) rfl (by decide) ?_
      refine d_skip (wA_off rfl rfl (by simp only [Tr.get_set, reduceIte, Nat.reduceEqDiff, Nat.reduceAdd, g6, g8, g10] <;> rfl)) rfl (by decide) ?_
      refine d_skip (wA_undef rfl rfl (by simp only [Tr.get_set, reduceIte, Nat.reduceEqDiff, Nat.reduceAdd, g6, g8, g10] <;> rfl)) rfl (by decide) ?_
      refine d_skip (wA_undef rfl rfl (by simp only [Tr.get_set, reduceIte, Nat.reduceEqDiff, Nat.reduceAdd, g6, g8, g10] <;> rfl)) rfl (by decide) ?_
      refine d_skip (wA_undef rfl rfl (by simp only [Tr.get_set, reduceIte, Nat.reduceEqDiff, Nat.reduceAdd, g6, g8, g10] <;> rfl)) rfl (by decide) ?_
      refine d_skip (wA_undef rfl rfl (by simp only [Tr.get_set, reduceIte, Nat.reduceEqDiff, Nat.reduceAdd, g6, g8, g10] <;> rfl)) rfl (by decide) ?_
      refine d_skip (wA_undef rfl rfl (by simp only [Tr.get_set, reduceIte, Nat.reduceEqDiff, Nat.reduceAdd, g6, g8, g10] <;> rfl)) rfl (by decide) ?_
      refine d_skip (wA_off rfl rfl (by simp only [Tr.get_set, reduceIte, Nat.reduceEqDiff, Nat.reduceAdd, g6, g8, g10] <;> rfl)) rfl (by decide) ?_
      refine ds (x_pick rfl (by simp only [Tr.get_set, reduceIte, Nat.reduceEqDiff, Nat.reduceAdd, ev_tmp, g6, g8, g10] <;> rfl) (by simp only [if_true, if_false, Bool.false_eq_true, ev_tmp, Tr.get_set, reduceIte, Nat.reduceEqDiff, Nat.reduceAdd, g6, g8, g10]; rfl)) ?_
      refine d_done ⟨by kernel_rfl, ?_⟩
      refine e_seq ?_
      refine k_condF (by simp only [Tr.get_set, reduceIte, Nat.reduceEqDiff, Nat.reduceAdd, ev_tmp, g6, g8, g10] <;> rfl) ?_
      refine k_skip ?_
      refine e_block ?_
      refine e_seq ?_
      refine k_region hP hC ?_
      refine os (x_move rfl zt) ?_
      refine os (x_bin rfl zt (by rfl) b_add) ?_
      refine os (x_assign rfl zt) ?_
      refine o_done ?_
      refine e_loop ?_
      refine ⟨IntKind.i64.wrap (k + 1), (to_mk (L := [0, 1]) (slots := [0, 1, 5, 6]) (w := 2) zr (gcVs_cons zh (gcV_sl hs_L rfl) (gcVs_cons zh (gcV_sl hs_M rfl) (gcVs_cons zh (gcV_free rfl) (gcVs_cons zh (gcV_free rfl) gcVs_nil)))) (gcH_cons (gcO_old (by rfl) zh) (gcH_cons (gcO_old (by rfl) zh) gcH_nil)) zr), ?_, ?_⟩
      ·rw [wr1 (by omega) (by omega)]; exact ⟨by omega, by omega, all_next (f := fun y => !conf (nth L i) y) j0 (by omega) j2 (by unfold conf kd ob chg; simp only [p6, p8, p10, decide_true, decide_false, Bool.true_and, Bool.and_true, Bool.false_and, Bool.and_false, Bool.not_false, Bool.or_false, Bool.or_self])⟩
      ·rw [wr1 (by omega) (by omega)]; omega
    ·have p8 := g8; try simp only [d1, d2, d3, d4, d5, d6, d7, d8, d9] at p8
     refine d_skip (wA_off rfl rfl (by simp only [Tr.get_set, reduceIte, Nat.reduceEqDiff, Nat.reduceAdd, g6, g8] <;> rfl)) rfl (by decide) ?_
     refine d_skip (wA_off rfl rfl (by simp only [Tr.get_set, reduceIte, Nat.reduceEqDiff, Nat.reduceAdd, g6, g8] <;> rfl)) rfl (by decide) ?_
     refine d_skip (wA_off rfl rfl (by simp only [Tr.get_set, reduceIte, Nat.reduceEqDiff, Nat.reduceAdd, g6, g8] <;> rfl)) rfl (by decide) ?_
     refine d_skip (wA_off rfl rfl (by simp only [Tr.get_set, reduceIte, Nat.reduceEqDiff, Nat.reduceAdd, g6, g8] <;> rfl)) rfl (by decide) ?_
     refine d_skip (wA_off rfl rfl (by simp only [Tr.get_set, reduceIte, Nat.reduceEqDiff, Nat.reduceAdd, g6, g8] <;> rfl)) rfl (by decide) ?_
     refine d_skip (wA_off rfl rfl (by simp only [Tr.get_set, reduceIte, Nat.reduceEqDiff, Nat.reduceAdd, g6, g8] <;> rfl)) rfl (by decide) ?_
     refine d_skip (wA_off rfl rfl (by simp only [Tr.get_set, reduceIte, Nat.reduceEqDiff, Nat.reduceAdd, g6, g8] <;> rfl)) rfl (by decide) ?_
     refine d_skip (wA_off rfl rfl (by simp only [Tr.get_set, reduceIte, Nat.reduceEqDiff, Nat.reduceAdd, g6, g8] <;> rfl)) rfl (by decide) ?_
     refine d_skip (wA_off rfl rfl (by simp only [Tr.get_set, reduceIte, Nat.reduceEqDiff, Nat.reduceAdd, g6, g8] <;> rfl)) rfl (by decide) ?_
     refine d_skip (wA_off rfl rfl (by simp only [Tr.get_set, reduceIte, Nat.reduceEqDiff, Nat.reduceAdd, g6, g8] <;> rfl)) rfl (by decide) ?_
     refine d_skip (wA_off rfl rfl (by simp only [Tr.get_set, reduceIte, Nat.reduceEqDiff, Nat.reduceAdd, g6, g8] <;> rfl)) rfl (by decide) ?_
     refine ds (x_pick rfl (by simp only [Tr.get_set, reduceIte, Nat.reduceEqDiff, Nat.reduceAdd, ev_tmp, g6, g8] <;> rfl) (by simp only [if_true, if_false, Bool.false_eq_true, ev_tmp, Tr.get_set, reduceIte, Nat.reduceEqDiff, Nat.reduceAdd, g6, g8]; rfl)) ?_
     refine ds (x_move rfl zt) ?_
     refine d_skip (wA_off rfl rfl (by simp only [Tr.get_set, reduceIte, Nat.reduceEqDiff, Nat.reduceAdd, g6, g8] <;> rfl)) rfl (by decide) ?_
     refine d_skip (wA_off rfl rfl (by simp only [Tr.get_set, reduceIte, Nat.reduceEqDiff, Nat.reduceAdd, g6, g8] <;> rfl)) rfl (by decide) ?_
     refine d_skip (wA_off rfl rfl (by simp only [Tr.get_set, reduceIte, Nat.reduceEqDiff, Nat.reduceAdd, g6, g8] <;> rfl)) rfl (by decide) ?_
     refine d_skip (wA_off rfl rfl (by simp only [Tr.get_set, reduceIte, Nat.reduceEqDiff, Nat.reduceAdd, g6, g8] <;> rfl)) rfl (by decide) ?_
     refine d_skip (wA_off rfl rfl (by simp only [Tr.get_set, reduceIte, Nat.reduceEqDiff, Nat.reduceAdd, g6, g8] <;> rfl)) rfl (by decide) ?_
     refine d_skip (wA_off rfl rfl (by simp only [Tr.get_set, reduceIte, Nat.reduceEqDiff, Nat.reduceAdd, g6, g8] <;> rfl)) rfl (by decide) ?_
     refine d_skip (wA_undef rfl rfl (by simp only [Tr.get_set, reduceIte, Nat.reduceEqDiff, Nat.reduceAdd, g6, g8] <;> rfl)) rfl (by decide) ?_
     refine d_skip (wA_undef rfl rfl (by simp only [Tr.get_set, reduceIte, Nat.reduceEqDiff, Nat.reduceAdd, g6, g8] <;> rfl)) rfl (by decide) ?_
     refine d_skip (wA_undef rfl rfl (by simp only [Tr.get_set, reduceIte, Nat.reduceEqDiff, Nat.reduceAdd, g6, g8] <;> rfl)) rfl (by decide) ?_
     refine d_skip (wA_undef rfl rfl (by simp only [Tr.get_set, reduceIte, Nat.reduceEqDiff, Nat.reduceAdd, g6, g8] <;> rfl)) rfl (by decide) ?_
     refine d_skip (wA_undef rfl rfl (by simp only [Tr.get_set, reduceIte, Nat.reduceEqDiff, Nat.reduceAdd, g6, g8] <;> rfl)) rfl (by decide) ?_
     refine d_skip (wA_off rfl rfl (by simp only [Tr.get_set, reduceIte, Nat.reduceEqDiff, Nat.reduceAdd, g6, g8] <;> rfl)) rfl (by decide) ?_
     refine ds (x_pick rfl (by simp only [Tr.get_set, reduceIte, Nat.reduceEqDiff, Nat.reduceAdd, ev_tmp, g6, g8] <;> rfl) (by simp only [if_true, if_false, Bool.false_eq_true, ev_tmp, Tr.get_set, reduceIte, Nat.reduceEqDiff, Nat.reduceAdd, g6, g8]; rfl)) ?_
     refine d_done ⟨by kernel_rfl, ?_⟩
     refine e_seq ?_
     refine k_condF (by simp only [Tr.get_set, reduceIte, Nat.reduceEqDiff, Nat.reduceAdd, ev_tmp, g6, g8] <;> rfl) ?_
     refine k_skip ?_
     refine e_block ?_
     refine e_seq ?_
     refine k_region hP hC ?_
     refine os (x_move rfl zt) ?_
     refine os (x_bin rfl zt (by rfl) b_add) ?_
     refine os (x_assign rfl zt) ?_
     refine o_done ?_
     refine e_loop ?_
     refine ⟨IntKind.i64.wrap (k + 1), (to_mk (L := [0, 1]) (slots := [0, 1, 5, 6]) (w := 2) zr (gcVs_cons zh (gcV_sl hs_L rfl) (gcVs_cons zh (gcV_sl hs_M rfl) (gcVs_cons zh (gcV_free rfl) (gcVs_cons zh (gcV_free rfl) gcVs_nil)))) (gcH_cons (gcO_old (by rfl) zh) (gcH_cons (gcO_old (by rfl) zh) gcH_nil)) zr), ?_, ?_⟩
     ·rw [wr1 (by omega) (by omega)]; exact ⟨by omega, by omega, all_next (f := fun y => !conf (nth L i) y) j0 (by omega) j2 (by unfold conf kd ob chg; simp only [p6, p8, decide_true, decide_false, Bool.true_and, Bool.and_true, Bool.false_and, Bool.and_false, Bool.not_false, Bool.or_false, Bool.or_self])⟩
     ·rw [wr1 (by omega) (by omega)]; omega
   ·have p6 := g6; try simp only [d1, d2, d3, d4, d5, d6, d7, d8, d9] at p6
    refine k_exit ?_
    refine e_seq_exit ?_
    refine e_loop_exit ?_
    refine e_block_eq ?_
    refine e_block ?_
    refine e_seq ?_
    refine k_region hP hC ?_
    refine os (x_move rfl zt) ?_
    refine os (x_bin rfl zt (by rfl) b_add) ?_
    refine os (x_assign rfl zt) ?_
    refine o_done ?_
    refine e_loop ?_
    refine ⟨IntKind.i64.wrap (i + 1), (to_mk (L := [0, 1]) (slots := [0, 1, 5]) (w := 2) zr (gcVs_cons zh (gcV_sl hs_L rfl) (gcVs_cons zh (gcV_sl hs_M rfl) (gcVs_cons zh (gcV_free rfl) gcVs_nil))) (gcH_cons (gcO_old (by rfl) zh) (gcH_cons (gcO_old (by rfl) zh) gcH_nil)) zr), ?_, ?_⟩
    ·rw [wr1 (by omega) (by omega)]; exact ⟨by omega, by omega, all_next h0 (by omega) h2 (clk_f (by assumption)), all_next (f := fun x => M.all fun y => !conf x y) h0 (by omega) h3 (all_end (by omega) j2)⟩
    ·rw [wr1 (by omega) (by omega)]; omega
 ·have p2 := g2; try simp only [d1, d2, d3, d4, d5, d6, d7, d8, d9] at p2
  refine k_exit ?_
  refine e_seq_exit ?_
  refine e_loop_exit ?_
  refine e_block_eq ?_
  refine e_seq ?_
  refine k_seq ?_
  refine k_seq ?_
  refine k_region hP hC ?_
  refine os (x_assign rfl (by rfl)) ?_
  refine o_done ?_
  refine e_seq ?_
  refine k_block ?_
  refine k_loop (α := Int) (fun k => cst 76 [0, 1, 7] [s_L, s_M, .int .i64 k] [.row L.flatten 0 BIG true L.flatten.length, .row M.flatten 1 BIG true M.flatten.length] 2) (fun k => 0 ≤ k ∧ k ≤ M.length ∧ (M.take k.toNat).all (fun y => !clk y) = true) (fun k => (M.length - k).toNat) 0 (to_mk (L := [0, 1]) (slots := [0, 1, 7]) (w := 2) zr (gcVs_cons zh (gcV_sl hs_L rfl) (gcVs_cons zh (gcV_sl hs_M rfl) (gcVs_cons zh (gcV_free rfl) gcVs_nil))) (gcH_cons (gcO_old (by rfl) zh) (gcH_cons (gcO_old (by rfl) zh) gcH_nil)) zr) ⟨by omega, by omega, rfl⟩ ?_
  rintro k ⟨k0, k1, k2⟩
  refine k_cst zm zo zl ?_
  refine k_seq ?_
  refine k_seq ?_
  refine k_region hP hC ?_
  refine os (x_move rfl zt) ?_
  refine os (x_move rfl zt) ?_
  refine os (x_lenS hs_M rfl rfl zv rfl Tryz.underlying23) ?_
  refine os (x_bin rfl zt zt b_lss) ?_
  refine o_done ?_
  refine e_seq ?_
  refine k_cond zt (fun g16 => ?_) (fun g16 => ?_)
  ·have p16 := g16; try simp only [d1, d2, d3, d4, d5, d6, d7, d8, d9] at p16
   refine k_skip ?_
   refine e_seq ?_
   refine k_seq ?_
   refine k_block ?_
   refine k_seq ?_
   refine k_region hP hC ?_
   refine os (x_move rfl zt) ?_
   refine os (x_move rfl zt) ?_
   refine os (x_indexS hs_M rfl zt zt Tryz.underlying23 T.s26 (by omega) (by omega)) ?_
   refine os (x_field0 rfl zt Tryz.underlying26 rfl T.s3 rfl) ?_
   refine os (x_load1 rfl zt T.g3 (l_partI0 (K := 3) (whole_row zh rfl) (by assumption) rfl (by omega) (by omega) rfl)) ?_
   refine os (x_bin rfl zt (by rfl) b_eql) ?_
   refine o_done ?_
   refine e_seq ?_
   refine k_cond (by simp only [Tr.get_set, reduceIte, Nat.reduceEqDiff, Nat.reduceAdd, ev_tmp, g16] <;> rfl) (fun g18 => ?_) (fun g18 => ?_)
   ·have p18 := g18; try simp only [d1, d2, d3, d4, d5, d6, d7, d8, d9] at p18
    refine k_seq ?_
    refine k_region hP hC ?_
    refine os (x_assign rfl (by rfl)) ?_
    refine o_done ?_
    refine e_seq ?_
    refine k_ret ?_
    refine e_block_ret ?_
    refine e_seq_ret ?_
    refine e_loop_ret ?_
    refine e_block_ret ?_
    refine e_seq_ret ?_
    refine gives_mk (L := [0, 1]) (slots := [4]) (w := 2) (.inr rfl) zr (gcVs_cons zh (gcV_free rfl) gcVs_nil) (gcH_cons (gcO_old (by rfl) zh) (gcH_cons (gcO_old (by rfl) zh) gcH_nil)) zr (by simp only [Tryz.results7, resA, cst, mkE, Tr.get_set, reduceIte, Nat.reduceEqDiff, Nat.reduceAdd] <;> rfl) ?_
    simp only [one, val_refApart]
    first
     | rw [ap_clkA h0 (by omega) (by assumption)]
     | rw [ap_clkB k0 (by omega) (by assumption)]
     | rw [ap_true (all_end (by omega) h2) (all_end (by omega) k2) (all_end (f := fun x => M.all fun y => !conf x y) (by omega) h3)]
     | rw [ap_conf (i := i) (k := k) h0 (by omega) j0 (by omega) (by unfold conf kd ob chg; simp only [p16, p18, decide_true, Bool.true_and, Bool.true_or, Bool.or_true])]
   ·have p18 := g18; try simp only [d1, d2, d3, d4, d5, d6, d7, d8, d9] at p18
    refine k_skip ?_
    refine e_block ?_
    refine e_seq ?_
    refine k_region hP hC ?_
    refine os (x_move rfl zt) ?_
    refine os (x_bin rfl zt (by rfl) b_add) ?_
    refine os (x_assign rfl zt) ?_
    refine o_done ?_
    refine e_loop ?_
    refine ⟨IntKind.i64.wrap (k + 1), (to_mk (L := [0, 1]) (slots := [0, 1, 7]) (w := 2) zr (gcVs_cons zh (gcV_sl hs_L rfl) (gcVs_cons zh (gcV_sl hs_M rfl) (gcVs_cons zh (gcV_free rfl) gcVs_nil))) (gcH_cons (gcO_old (by rfl) zh) (gcH_cons (gcO_old (by rfl) zh) gcH_nil)) zr), ?_, ?_⟩
    ·rw [wr1 (by omega) (by omega)]; exact ⟨by omega, by omega, all_next (f := fun y => !clk y) k0 (by omega) k2 (clk_f (by assumption))⟩
    ·rw [wr1 (by omega) (by omega)]; omega
  ·have p16 := g16; try simp only [d1, d2, d3, d4, d5, d6, d7, d8, d9] at p16
   refine k_exit ?_
   refine e_seq_exit ?_
   refine e_loop_exit ?_
   refine e_block_eq ?_
   refine e_seq ?_
   refine k_seq ?_
   refine k_region hP hC ?_
   refine os (x_assign rfl (by rfl)) ?_
   refine o_done ?_
   refine e_seq ?_
   refine k_ret ?_
   refine gives_mk (L := [0, 1]) (slots := [4]) (w := 2) (.inr rfl) zr (gcVs_cons zh (gcV_free rfl) gcVs_nil) (gcH_cons (gcO_old (by rfl) zh) (gcH_cons (gcO_old (by rfl) zh) gcH_nil)) zr (by simp only [Tryz.results7, resA, cst, mkE, Tr.get_set, reduceIte, Nat.reduceEqDiff, Nat.reduceAdd] <;> rfl) ?_
   simp only [one, val_refApart]
   first
    | rw [ap_clkA h0 (by omega) (by assumption)]
    | rw [ap_clkB k0 (by omega) (by assumption)]
    | rw [ap_true (all_end (by omega) h2) (all_end (by omega) k2) (all_end (f := fun x => M.all fun y => !conf x y) (by omega) h3)]
    | rw [ap_conf (i := i) (k := k) h0 (by omega) j0 (by omega) (by unfold conf kd ob chg; simp only [p16, decide_true, Bool.true_and, Bool.true_or, Bool.or_true])]
theorem con_refApart : Con Tryz.prog 7 c_refApart := con_flat Tryz.func7 rfl fun us cs v new h => by
 unfold spec_refApart at h
 split at h
 case h_2 => cases h
 rename_i s_L s_M c_L c_M
 split at h
 case isFalse => cases h
 rename_i hc
 try simp only [Bool.and_eq_true] at hc
 obtain ⟨⟨⟨⟨q_L, r_L⟩, q_M⟩, r_M⟩, hok⟩ := hc
 cases h
 obtain ⟨h_L, e_L⟩ := isRows_cfs (by decide) r_L
 have hs_L := slOk_sl (n := (chunks 3 c_L).length) q_L (by decide) (rows_len (ks := T.K26) (by decide) r_L)
 obtain ⟨h_M, e_M⟩ := isRows_cfs (by decide) r_M
 have hs_M := slOk_sl (n := (chunks 3 c_M).length) q_M (by decide) (rows_len (ks := T.K26) (by decide) r_M)
 have key := refApart_m hs_L h_L hs_M h_M hok
 have hrows : [(chunks T.K26.length c_L).flatten, (chunks T.K26.length c_M).flatten] = [c_L, c_M] := by rw [e_L, e_M]
 rw [← hrows]
 exact key
theorem refApart_c {H : AH} {s_L : Value} {s_M : Value} {L : List (List Value)} {M : List (List Value)} (hr_L : Rd H 3 s_L L.length L.flatten) (h_L : cfs T.K26 L) (hr_M : Rd H 3 s_M M.length M.flatten) (h_M : cfs T.K26 M) (hok : ok_refApart L M = true) : c_refApart [s_L, s_M] H = some (.bool (apB L M), H) := by
 obtain ⟨u_L, a_L, b_L⟩ := hr_L 0
 obtain ⟨u_M, a_M, b_M⟩ := hr_M 1
 have k_L := isRows_flat (by decide) h_L
 have k2_L : chunks 3 L.flatten = L := k_L.2
 have k_M := isRows_flat (by decide) h_M
 have k2_M : chunks 3 M.flatten = M := k_M.2
 exact flatC_at (v := val_refApart L M) (new := new_refApart L M) (cl_sl a_L (cl_sl a_M cl_nil)) (by simp only [spec_refApart, sl_slOk b_L (cfs_len h_L), k_L.1, k2_L, sl_slOk b_M (cfs_len h_M), k_M.1, k2_M, hok, Bool.and_self, if_true]) (rfl) (gcV_free rfl)
def ok_apart (L : List (List Value)) (M : List (List Value)) : Bool := decide (L.length ≤ 1000) && decide (M.length ≤ 1000)
def val_apart (L : List (List Value)) (M : List (List Value)) : Value := .bool (apB L M)
def new_apart (L : List (List Value)) (M : List (List Value)) : List (List Value) := []
def spec_apart : Go.AM.Spec := fun us cs => match us, cs with
 | [s_L, s_M], [c_L, c_M] => if slOk 0 3 c_L s_L && isRows T.K34 c_L && slOk 1 3 c_M s_M && isRows T.K34 c_M && ok_apart (chunks 3 c_L) (chunks 3 c_M) then some (val_apart (chunks 3 c_L) (chunks 3 c_M), new_apart (chunks 3 c_L) (chunks 3 c_M)) else none
 | _, _ => none
def c_apart := flatC [.sl 3, .sl 3] spec_apart
theorem apart_m {s_L : Value} {s_M : Value} {L : List (List Value)} {M : List (List Value)} (hs_L : Sl 0 3 L.length s_L) (h_L : cfs T.K34 L) (hs_M : Sl 1 3 M.length s_M) (h_M : cfs T.K34 M) (hok : ok_apart L M = true) : Meets Tryz.prog (.func 5) [s_L, s_M] (cheap [L.flatten, M.flatten]) (val_apart L M) (rheap [L.flatten, M.flatten] (new_apart L M)) := by
 have hP := Fits
 have hC : CallSound Tryz.prog (tabOf []) := tab_sound tab_end
 simp only [ok_apart, Bool.and_eq_true, decide_eq_true_eq] at hok
 obtain ⟨hA, hB⟩ := hok
 refine meets_start (sz := 68) hP Tryz.func5 rfl rfl zo (by simp only [Tr.ofList, roRows, Nat.zero_add, Nat.reduceAdd] <;> rfl) zl ?_
 refine k_seq ?_
 refine k_region hP hC ?_
 refine os (x_assign rfl (by rfl)) ?_
 refine o_done ?_
 refine e_seq ?_
 refine k_seq ?_
 refine k_region hP hC ?_
 refine os (y_makeMap rfl) ?_
 refine os (x_assign rfl zt) ?_
 refine o_done ?_
 refine e_seq ?_
 refine k_seq ?_
 refine k_seq ?_
 refine k_region hP hC ?_
 refine os (x_move rfl zt) ?_
 refine os (x_lenS hs_L rfl rfl zv rfl Tryz.underlying28) ?_
 refine os (x_move rfl (by rfl)) ?_
 refine o_done ?_
 refine e_seq ?_
 refine k_block ?_
 refine k_loop (α := Int) (fun i => cst 68 [0, 1, 5, 14, 15, 16] [s_L, s_M, .map (some 2), s_L, .int .i64 L.length, .int .i64 i] [.row L.flatten 0 BIG true L.flatten.length, .row M.flatten 1 BIG true M.flatten.length, .map (ents 0 (met (L.take i.toNat))) (met (L.take i.toNat)).length] 2) (fun i => 0 ≤ i ∧ i ≤ L.length ∧ (L.take i.toNat).all (fun x => !clk x) = true) (fun i => (L.length - i).toNat) 0 (to_mk (L := [0, 1, 2]) (slots := [0, 1, 5, 14, 15, 16]) (w := 2) zr (gcVs_cons zh (gcV_sl hs_L rfl) (gcVs_cons zh (gcV_sl hs_M rfl) (gcVs_cons zh (gcV_map rfl) (gcVs_cons zh (gcV_sl hs_L rfl) (gcVs_cons zh (gcV_free rfl) (gcVs_cons zh (gcV_free rfl) gcVs_nil)))))) (gcH_cons (gcO_old (by rfl) zh) (gcH_cons (gcO_old (by rfl) zh) (gcH_cons (gcO_map (by rfl) zh (gcM_free (met_free []))) gcH_nil))) zr) ⟨by omega, by omega, rfl⟩ ?_
 rintro i ⟨h0, h1, h2⟩
 have hM1 := met_ok (L.take i.toNat)
 refine k_cst zm zo zl ?_
 refine k_seq ?_
 refine k_region hP hC ?_
 refine os (x_bin rfl zt zt b_lss) ?_
 refine o_done ?_
 refine e_seq ?_
 refine k_seq ?_
 refine k_cond zt (fun g2 => ?_) (fun g2 => ?_)
 ·have p2 := g2; try simp only [d1, d2, d3, d4, d5, d6, d7, d8, d9] at p2
  refine k_skip ?_
  refine e_seq ?_
  refine k_seq ?_
  refine k_block ?_
  refine k_seq ?_
  refine k_region hP hC ?_
  refine os (x_indexS hs_L rfl zt zt Tryz.underlying28 T.s34 (by omega) (by omega)) ?_
  refine os (x_loadA rfl zt T.g34 T.s34 (l_elem (whole_row zh rfl) (by assumption) rfl (by omega) (by omega))) ?_
  refine os (y_alloc rfl T.z34 rfl rfl) ?_
  refine o_stepN (wA_none rfl) rfl (y_storeA rfl zt zt T.s34 (cf_len (ks := T.K34) zc) zh rfl rfl (cf_oneC (ks := T.K34) zc)) ?_
  refine o_done ?_
  refine e_seq ?_
  refine k_seq ?_
  refine k_seq ?_
  refine k_region hP hC ?_
  refine os (x_field (off' := 0) rfl zt Tryz.underlying34 rfl T.s3 rfl) ?_
  refine os (x_load1 rfl zt T.g3 (by first | exact l_boxI (whole_row zh rfl) (by (first | assumption | (exact cf_nth (by assumption) (by omega) (by omega)))) rfl | exact l_boxS (whole_row zh rfl) (by (first | assumption | (exact cf_nth (by assumption) (by omega) (by omega)))) rfl | (simp only [loadC, AH.fam, Tr.get_set, reduceIte, Nat.reduceEqDiff, Nat.reduceAdd, Fam.rb, List.drop_zero, List.drop_succ_cons, List.take_succ_cons, List.take_zero, List.length_cons, List.length_nil, Nat.zero_le, Nat.reduceLeDiff, and_self, true_and] <;> rfl))) ?_
  refine os (x_bin rfl zt (by rfl) b_eql) ?_
  refine o_done ?_
  refine e_seq ?_
  refine k_cond (by simp only [Tr.get_set, reduceIte, Nat.reduceEqDiff, Nat.reduceAdd, ev_tmp, g2] <;> rfl) (fun g4 => ?_) (fun g4 => ?_)
  ·have p4 := g4; try simp only [d1, d2, d3, d4, d5, d6, d7, d8, d9] at p4
   refine k_seq ?_
   refine k_region hP hC ?_
   refine os (x_assign rfl (by rfl)) ?_
   refine o_done ?_
   refine e_seq ?_
   refine k_ret ?_
   refine e_seq_ret ?_
   refine e_block_ret ?_
   refine e_seq_ret ?_
   refine e_loop_ret ?_
   refine e_block_ret ?_
   refine e_seq_ret ?_
   refine gives_mk (L := [0, 1]) (slots := [4]) (w := 2) (.inr rfl) zr (gcVs_cons zh (gcV_free rfl) gcVs_nil) (gcH_cons (gcO_old (by rfl) zh) (gcH_cons (gcO_old (by rfl) zh) gcH_nil)) zr (by simp only [Tryz.results5, resA, cst, mkE, Tr.get_set, reduceIte, Nat.reduceEqDiff, Nat.reduceAdd] <;> rfl) ?_
   simp only [one, val_apart]
   first
    | rw [ap_clkA h0 (by omega) (by assumption)]
    | rw [ap_clkB k0 (by omega) (by assumption)]
    | rw [ap_noHit (all_end (by omega) h2) (all_end (by omega) k2) (all_end (f := fun y => !hitB L y) (by omega) k3)]
    | rw [ap_hit (k := k) k0 (by omega) (by unfold hitB chg; simp only [p2, p4, Bool.true_and, Bool.or_true, Bool.true_or])]
  ·have p4 := g4; try simp only [d1, d2, d3, d4, d5, d6, d7, d8, d9] at p4
   refine k_skip ?_
   refine e_seq ?_
   refine k_seq ?_
   refine k_region hP hC ?_
   refine os (x_field (off' := 0) rfl zt Tryz.underlying34 rfl T.s3 rfl) ?_
   refine os (x_load1 rfl zt T.g3 (by first | exact l_boxI (whole_row zh rfl) (by (first | assumption | (exact cf_nth (by assumption) (by omega) (by omega)))) rfl | exact l_boxS (whole_row zh rfl) (by (first | assumption | (exact cf_nth (by assumption) (by omega) (by omega)))) rfl | (simp only [loadC, AH.fam, Tr.get_set, reduceIte, Nat.reduceEqDiff, Nat.reduceAdd, Fam.rb, List.drop_zero, List.drop_succ_cons, List.take_succ_cons, List.take_zero, List.length_cons, List.length_nil, Nat.zero_le, Nat.reduceLeDiff, and_self, true_and] <;> rfl))) ?_
   refine os (x_field (off' := 1) rfl zt Tryz.underlying34 rfl T.s3 rfl) ?_
   refine os (x_load1 rfl zt T.g3 (by first | exact l_boxI (whole_row zh rfl) (by (first | assumption | (exact cf_nth (by assumption) (by omega) (by omega)))) rfl | exact l_boxS (whole_row zh rfl) (by (first | assumption | (exact cf_nth (by assumption) (by omega) (by omega)))) rfl | (simp only [loadC, AH.fam, Tr.get_set, reduceIte, Nat.reduceEqDiff, Nat.reduceAdd, Fam.rb, List.drop_zero, List.drop_succ_cons, List.take_succ_cons, List.take_zero, List.length_cons, List.length_nil, Nat.zero_le, Nat.reduceLeDiff, and_self, true_and] <;> rfl))) ?_
   refine os (x_build (v := keyV (nth L i)) rfl zp T.z36 rfl bld36) ?_
   refine os (y_alloc rfl T.z36 rfl rfl) ?_
   refine o_stepN (wA_none rfl) rfl (y_storeA rfl zt zt T.s36 rfl zh rfl rfl rfl) ?_
   refine o_done ?_
   refine e_seq ?_
   refine k_draw hP hC zr ?_
   refine ds (x_move rfl zt) ?_
   refine ds (x_loadA rfl zt T.g36 T.s36 (l_boxAll (whole_row zh rfl) (show cf T.K36 _ = true from rfl) rfl)) ?_
   refine ds (x_move rfl zt) ?_
   refine ds (x_loadA rfl zt T.g36 T.s36 (l_boxAll (whole_row zh rfl) (show cf T.K36 _ = true from rfl) rfl)) ?_
   refine ds (y_lookB hM1 rfl zt zt zh) ?_
   refine ds (x_move rfl zt) ?_
   refine d_guard rfl rfl zh (fun g6 => ?_) (fun g6 => ?_)
   ·have p6 := g6; try simp only [d1, d2, d3, d4, d5, d6, d7, d8, d9] at p6
    refine d_skip (wA_off rfl rfl (by simp only [Tr.get_set, reduceIte, Nat.reduceEqDiff, Nat.reduceAdd, g2, g4, g6] <;> rfl)) rfl (by decide) ?_
    refine d_skip (wA_off rfl rfl (by simp only [Tr.get_set, reduceIte, Nat.reduceEqDiff, Nat.reduceAdd, g2, g4, g6] <;> rfl)) rfl (by decide) ?_
    refine ds (x_pick rfl (by simp only [Tr.get_set, reduceIte, Nat.reduceEqDiff, Nat.reduceAdd, ev_tmp, g2, g4, g6] <;> rfl) (by simp only [if_true, if_false, Bool.false_eq_true, ev_tmp, Tr.get_set, reduceIte, Nat.reduceEqDiff, Nat.reduceAdd, g2, g4, g6]; rfl)) ?_
    refine d_stepN (wA_none rfl) rfl (y_putB (c := nth L i) (b := true) hM1 (by unfold chg; simp only [p6, Bool.true_or, Bool.false_or]) rfl zt zt zt zh) ?_
    refine d_done ⟨by kernel_rfl, ?_⟩
    refine e_block ?_
    refine e_seq ?_
    refine k_region hP hC ?_
    refine os (x_bin rfl zt (by rfl) b_add) ?_
    refine os (x_move rfl zt) ?_
    refine o_done ?_
    refine e_loop ?_
    refine ⟨IntKind.i64.wrap (i + 1), (to_mk (L := [0, 1, 2]) (slots := [0, 1, 5, 14, 15, 16]) (w := 2) zr (gcVs_cons zh (gcV_sl hs_L rfl) (gcVs_cons zh (gcV_sl hs_M rfl) (gcVs_cons zh (gcV_map rfl) (gcVs_cons zh (gcV_sl hs_L rfl) (gcVs_cons zh (gcV_free rfl) (gcVs_cons zh (gcV_free rfl) gcVs_nil)))))) (gcH_cons (gcO_old (by rfl) zh) (gcH_cons (gcO_old (by rfl) zh) (gcH_cons (gcO_map (by rfl) (by rw [wr1 (by omega) (by omega), met_next h0 (by omega)]; simp only [Tr.get_set, reduceIte, Nat.reduceEqDiff, Nat.reduceAdd] <;> rfl) (gcM_free (met_free _))) gcH_nil))) zr), ?_, ?_⟩
    ·rw [wr1 (by omega) (by omega)]; exact ⟨by omega, by omega, all_next h0 (by omega) h2 (clk_f (by assumption))⟩
    ·rw [wr1 (by omega) (by omega)]; omega
   ·have p6 := g6; try simp only [d1, d2, d3, d4, d5, d6, d7, d8, d9] at p6
    refine d_step (wA_on rfl rfl (by simp only [Tr.get_set, reduceIte, Nat.reduceEqDiff, Nat.reduceAdd, g2, g4, g6] <;> rfl)) rfl (x_field (off' := 2) rfl zt Tryz.underlying34 rfl T.s4 rfl) (by decide) ?_
    refine d_step (wA_on rfl rfl (by simp only [Tr.get_set, reduceIte, Nat.reduceEqDiff, Nat.reduceAdd, g2, g4, g6] <;> rfl)) rfl (x_load1 rfl zt T.g4 (l_boxB (whole_row zh rfl) (by (first | assumption | (exact cf_nth (by assumption) (by omega) (by omega)))) rfl)) (by decide) ?_
    refine ds (x_pick rfl (by simp only [Tr.get_set, reduceIte, Nat.reduceEqDiff, Nat.reduceAdd, ev_tmp, g2, g4, g6] <;> rfl) (by simp only [if_true, if_false, Bool.false_eq_true, ev_tmp, Tr.get_set, reduceIte, Nat.reduceEqDiff, Nat.reduceAdd, g2, g4, g6]; rfl)) ?_
    refine d_stepN (wA_none rfl) rfl (y_putB (c := nth L i) (b := (boolAt (nth L i) 2)) hM1 (by unfold chg; simp only [p6, Bool.true_or, Bool.false_or]) rfl zt zt zt zh) ?_
    refine d_done ⟨by kernel_rfl, ?_⟩
    refine e_block ?_
    refine e_seq ?_
    refine k_region hP hC ?_
    refine os (x_bin rfl zt (by rfl) b_add) ?_
    refine os (x_move rfl zt) ?_
    refine o_done ?_
    refine e_loop ?_
    refine ⟨IntKind.i64.wrap (i + 1), (to_mk (L := [0, 1, 2]) (slots := [0, 1, 5, 14, 15, 16]) (w := 2) zr (gcVs_cons zh (gcV_sl hs_L rfl) (gcVs_cons zh (gcV_sl hs_M rfl) (gcVs_cons zh (gcV_map rfl) (gcVs_cons zh (gcV_sl hs_L rfl) (gcVs_cons zh (gcV_free rfl) (gcVs_cons zh (gcV_free rfl) gcVs_nil)))))) (gcH_cons (gcO_old (by rfl) zh) (gcH_cons (gcO_old (by rfl) zh) (gcH_cons (gcO_map (by rfl) (by rw [wr1 (by omega) (by omega), met_next h0 (by omega)]; simp only [Tr.get_set, reduceIte, Nat.reduceEqDiff, Nat.reduceAdd] <;> rfl) (gcM_free (met_free _))) gcH_nil))) zr), ?_, ?_⟩
    ·rw [wr1 (by omega) (by omega)]; exact ⟨by omega, by omega, all_next h0 (by omega) h2 (clk_f (by assumption))⟩
    ·rw [wr1 (by omega) (by omega)]; omega
 ·have p2 := g2; try simp only [d1, d2, d3, d4, d5, d6, d7, d8, d9] at p2
  refine k_exit ?_
  refine e_seq_exit ?_
  refine e_loop_exit ?_
  refine e_block_eq ?_
  refine e_seq ?_
  refine k_seq ?_
  refine k_seq ?_
  refine k_region hP hC ?_
  refine os (x_move rfl zt) ?_
  refine os (x_lenS hs_M rfl rfl zv rfl Tryz.underlying28) ?_
  refine os (x_move rfl (by rfl)) ?_
  refine o_done ?_
  refine e_seq ?_
  refine k_block ?_
  refine k_loop (α := Int) (fun k => cst 68 [0, 1, 5, 38, 39, 40] [s_L, s_M, .map (some 2), s_M, .int .i64 M.length, .int .i64 k] [.row L.flatten 0 BIG true L.flatten.length, .row M.flatten 1 BIG true M.flatten.length, .map (ents 0 (met L)) (met L).length] 2) (fun k => 0 ≤ k ∧ k ≤ M.length ∧ (M.take k.toNat).all (fun y => !clk y) = true ∧ (M.take k.toNat).all (fun y => !hitB L y) = true) (fun k => (M.length - k).toNat) 0 (to_mk (L := [0, 1, 2]) (slots := [0, 1, 5, 38, 39, 40]) (w := 2) zr (gcVs_cons zh (gcV_sl hs_L rfl) (gcVs_cons zh (gcV_sl hs_M rfl) (gcVs_cons zh (gcV_map rfl) (gcVs_cons zh (gcV_sl hs_M rfl) (gcVs_cons zh (gcV_free rfl) (gcVs_cons zh (gcV_free rfl) gcVs_nil)))))) (gcH_cons (gcO_old (by rfl) zh) (gcH_cons (gcO_old (by rfl) zh) (gcH_cons (gcO_map (by rfl) (by rw [show L.take i.toNat = L from take_end (by omega)] at *; simp only [Tr.get_set, reduceIte, Nat.reduceEqDiff, Nat.reduceAdd] <;> rfl) (gcM_free (met_free _))) gcH_nil))) zr) ⟨by omega, by omega, rfl, rfl⟩ ?_
  rintro k ⟨k0, k1, k2, k3⟩
  have hM2 := met_ok L
  refine k_cst zm zo zl ?_
  refine k_seq ?_
  refine k_region hP hC ?_
  refine os (x_bin rfl zt zt b_lss) ?_
  refine o_done ?_
  refine e_seq ?_
  refine k_seq ?_
  refine k_cond zt (fun g9 => ?_) (fun g9 => ?_)
  ·have p9 := g9; try simp only [d1, d2, d3, d4, d5, d6, d7, d8, d9] at p9
   refine k_skip ?_
   refine e_seq ?_
   refine k_seq ?_
   refine k_block ?_
   refine k_seq ?_
   refine k_region hP hC ?_
   refine os (x_indexS hs_M rfl zt zt Tryz.underlying28 T.s34 (by omega) (by omega)) ?_
   refine os (x_loadA rfl zt T.g34 T.s34 (l_elem (whole_row zh rfl) (by assumption) rfl (by omega) (by omega))) ?_
   refine os (y_alloc rfl T.z34 rfl rfl) ?_
   refine o_stepN (wA_none rfl) rfl (y_storeA rfl zt zt T.s34 (cf_len (ks := T.K34) zc) zh rfl rfl (cf_oneC (ks := T.K34) zc)) ?_
   refine o_done ?_
   refine e_seq ?_
   refine k_seq ?_
   refine k_region hP hC ?_
   refine os (x_move rfl zt) ?_
   refine os (x_field (off' := 0) rfl zt Tryz.underlying34 rfl T.s3 rfl) ?_
   refine os (x_load1 rfl zt T.g3 (by first | exact l_boxI (whole_row zh rfl) (by (first | assumption | (exact cf_nth (by assumption) (by omega) (by omega)))) rfl | exact l_boxS (whole_row zh rfl) (by (first | assumption | (exact cf_nth (by assumption) (by omega) (by omega)))) rfl | (simp only [loadC, AH.fam, Tr.get_set, reduceIte, Nat.reduceEqDiff, Nat.reduceAdd, Fam.rb, List.drop_zero, List.drop_succ_cons, List.take_succ_cons, List.take_zero, List.length_cons, List.length_nil, Nat.zero_le, Nat.reduceLeDiff, and_self, true_and] <;> rfl))) ?_
   refine os (x_field (off' := 1) rfl zt Tryz.underlying34 rfl T.s3 rfl) ?_
   refine os (x_load1 rfl zt T.g3 (by first | exact l_boxI (whole_row zh rfl) (by (first | assumption | (exact cf_nth (by assumption) (by omega) (by omega)))) rfl | exact l_boxS (whole_row zh rfl) (by (first | assumption | (exact cf_nth (by assumption) (by omega) (by omega)))) rfl | (simp only [loadC, AH.fam, Tr.get_set, reduceIte, Nat.reduceEqDiff, Nat.reduceAdd, Fam.rb, List.drop_zero, List.drop_succ_cons, List.take_succ_cons, List.take_zero, List.length_cons, List.length_nil, Nat.zero_le, Nat.reduceLeDiff, and_self, true_and] <;> rfl))) ?_
   refine os (x_build (v := keyV (nth M k)) rfl zp T.z36 rfl bld36) ?_
   refine os (y_lookB2 hM2 rfl zt zt zh) ?_
   refine os (x_move rfl zt) ?_
   refine os (x_extract rfl zt rfl) ?_
   refine os (x_extract rfl zt rfl) ?_
   refine os (x_assign rfl zt) ?_
   refine os (x_assign rfl zt) ?_
   refine o_done ?_
   refine e_seq ?_
   refine k_seq ?_
   refine k_region hP hC ?_
   refine os (x_field (off' := 0) rfl zt Tryz.underlying34 rfl T.s3 rfl) ?_
   refine os (x_load1 rfl zt T.g3 (by first | exact l_boxI (whole_row zh rfl) (by (first | assumption | (exact cf_nth (by assumption) (by omega) (by omega)))) rfl | exact l_boxS (whole_row zh rfl) (by (first | assumption | (exact cf_nth (by assumption) (by omega) (by omega)))) rfl | (simp only [loadC, AH.fam, Tr.get_set, reduceIte, Nat.reduceEqDiff, Nat.reduceAdd, Fam.rb, List.drop_zero, List.drop_succ_cons, List.take_succ_cons, List.take_zero, List.length_cons, List.length_nil, Nat.zero_le, Nat.reduceLeDiff, and_self, true_and] <;> rfl))) ?_
   refine os (x_bin rfl zt (by rfl) b_eql) ?_
   refine os (x_move rfl zt) ?_
   refine o_guard rfl rfl zh (fun g13 => ?_) (fun g13 => ?_)
   ·have p13 := g13; try simp only [d1, d2, d3, d4, d5, d6, d7, d8, d9] at p13
    refine o_skip (wA_off rfl rfl (by simp only [Tr.get_set, reduceIte, Nat.reduceEqDiff, Nat.reduceAdd, g9, g13] <;> rfl)) rfl (by decide) ?_
    refine o_skip (wA_off rfl rfl (by simp only [Tr.get_set, reduceIte, Nat.reduceEqDiff, Nat.reduceAdd, g9, g13] <;> rfl)) rfl (by decide) ?_
    refine o_skip (wA_undef rfl rfl (by simp only [Tr.get_set, reduceIte, Nat.reduceEqDiff, Nat.reduceAdd, g9, g13] <;> rfl)) rfl (by decide) ?_
    refine o_skip (wA_undef rfl rfl (by simp only [Tr.get_set, reduceIte, Nat.reduceEqDiff, Nat.reduceAdd, g9, g13] <;> rfl)) rfl (by decide) ?_
    refine o_skip (wA_undef rfl rfl (by simp only [Tr.get_set, reduceIte, Nat.reduceEqDiff, Nat.reduceAdd, g9, g13] <;> rfl)) rfl (by decide) ?_
    refine o_skip (wA_undef rfl rfl (by simp only [Tr.get_set, reduceIte, Nat.reduceEqDiff, Nat.reduceAdd, g9, g13] <;> rfl)) rfl (by decide) ?_
    refine o_skip (wA_undef rfl rfl (by simp only [Tr.get_set, reduceIte, Nat.reduceEqDiff, Nat.reduceAdd, g9, g13] <;> rfl)) rfl (by decide) ?_
    refine o_skip (wA_off rfl rfl (by simp only [Tr.get_set, reduceIte, Nat.reduceEqDiff, Nat.reduceAdd, g9, g13] <;> rfl)) rfl (by decide) ?_
    refine os (x_pick rfl (by simp only [Tr.get_set, reduceIte, Nat.reduceEqDiff, Nat.reduceAdd, ev_tmp, g9, g13] <;> rfl) (by simp only [if_true, if_false, Bool.false_eq_true, ev_tmp, Tr.get_set, reduceIte, Nat.reduceEqDiff, Nat.reduceAdd, g9, g13]; rfl)) ?_
    refine o_done ?_
    refine e_seq ?_
    refine k_condT (by simp only [Tr.get_set, reduceIte, Nat.reduceEqDiff, Nat.reduceAdd, ev_tmp, g9, g13] <;> rfl) ?_
    refine k_seq ?_
    refine k_region hP hC ?_
    refine os (x_assign rfl (by rfl)) ?_
    refine o_done ?_
    refine e_seq ?_
    refine k_ret ?_
    refine e_block_ret ?_
    refine e_seq_ret ?_
    refine e_loop_ret ?_
    refine e_block_ret ?_
    refine e_seq_ret ?_
    refine gives_mk (L := [0, 1]) (slots := [4]) (w := 2) (.inr rfl) zr (gcVs_cons zh (gcV_free rfl) gcVs_nil) (gcH_cons (gcO_old (by rfl) zh) (gcH_cons (gcO_old (by rfl) zh) gcH_nil)) zr (by simp only [Tryz.results5, resA, cst, mkE, Tr.get_set, reduceIte, Nat.reduceEqDiff, Nat.reduceAdd] <;> rfl) ?_
    simp only [one, val_apart]
    first
     | rw [ap_clkA h0 (by omega) (by assumption)]
     | rw [ap_clkB k0 (by omega) (by assumption)]
     | rw [ap_noHit (all_end (by omega) h2) (all_end (by omega) k2) (all_end (f := fun y => !hitB L y) (by omega) k3)]
     | rw [ap_hit (k := k) k0 (by omega) (by unfold hitB chg; simp only [p9, p13, Bool.true_and, Bool.or_true, Bool.true_or])]
   ·have p13 := g13; try simp only [d1, d2, d3, d4, d5, d6, d7, d8, d9] at p13
    refine o_step (wA_on rfl rfl (by simp only [Tr.get_set, reduceIte, Nat.reduceEqDiff, Nat.reduceAdd, g9, g13] <;> rfl)) rfl (x_move rfl zt) (by decide) ?_
    refine o_step (wA_on rfl rfl (by simp only [Tr.get_set, reduceIte, Nat.reduceEqDiff, Nat.reduceAdd, g9, g13] <;> rfl)) rfl (x_move rfl zt) (by decide) ?_
    refine o_guard rfl rfl zh (fun g14 => ?_) (fun g14 => ?_)
    ·have p14 := g14; try simp only [d1, d2, d3, d4, d5, d6, d7, d8, d9] at p14
     refine o_step (wA_on rfl rfl (by simp only [Tr.get_set, reduceIte, Nat.reduceEqDiff, Nat.reduceAdd, g9, g13, g14] <;> rfl)) rfl (x_move rfl zt) (by decide) ?_
     refine o_step (wA_on rfl rfl (by simp only [Tr.get_set, reduceIte, Nat.reduceEqDiff, Nat.reduceAdd, g9, g13, g14] <;> rfl)) rfl (x_move rfl zt) (by decide) ?_
     refine o_guard rfl rfl zh (fun g15 => ?_) (fun g15 => ?_)
     ·have p15 := g15; try simp only [d1, d2, d3, d4, d5, d6, d7, d8, d9] at p15
      refine o_skip (wA_off rfl rfl (by simp only [Tr.get_set, reduceIte, Nat.reduceEqDiff, Nat.reduceAdd, g9, g13, g14, g15] <;> rfl)) rfl (by decide) ?_
      refine o_skip (wA_off rfl rfl (by simp only [Tr.get_set, reduceIte, Nat.reduceEqDiff, Nat.reduceAdd, g9, g13, g14, g15] <;> rfl)) rfl (by decide) ?_
      refine o_step (wA_on rfl rfl (by simp only [Tr.get_set, reduceIte, Nat.reduceEqDiff, Nat.reduceAdd, g9, g13, g14, g15] <;> rfl)) rfl (x_pick rfl (by simp only [Tr.get_set, reduceIte, Nat.reduceEqDiff, Nat.reduceAdd, ev_tmp, g9, g13, g14, g15] <;> rfl) (by simp only [if_true, if_false, Bool.false_eq_true, ev_tmp, Tr.get_set, reduceIte, Nat.reduceEqDiff, Nat.reduceAdd, g9, g13, g14, g15]; rfl)) (by decide) ?_
      refine o_step (wA_on rfl rfl (by simp only [Tr.get_set, reduceIte, Nat.reduceEqDiff, Nat.reduceAdd, g9, g13, g14, g15] <;> rfl)) rfl (x_pick rfl (by simp only [Tr.get_set, reduceIte, Nat.reduceEqDiff, Nat.reduceAdd, ev_tmp, g9, g13, g14, g15] <;> rfl) (by simp only [if_true, if_false, Bool.false_eq_true, ev_tmp, Tr.get_set, reduceIte, Nat.reduceEqDiff, Nat.reduceAdd, g9, g13, g14, g15]; rfl)) (by decide) ?_
      refine os (x_pick rfl (by simp only [Tr.get_set, reduceIte, Nat.reduceEqDiff, Nat.reduceAdd, ev_tmp, g9, g13, g14, g15] <;> rfl) (by simp only [if_true, if_false, Bool.false_eq_true, ev_tmp, Tr.get_set, reduceIte, Nat.reduceEqDiff, Nat.reduceAdd, g9, g13, g14, g15]; rfl)) ?_
      refine o_done ?_
      refine e_seq ?_
      refine k_condT (by simp only [Tr.get_set, reduceIte, Nat.reduceEqDiff, Nat.reduceAdd, ev_tmp, g9, g13, g14, g15] <;> rfl) ?_
      refine k_seq ?_
      refine k_region hP hC ?_
      refine os (x_assign rfl (by rfl)) ?_
      refine o_done ?_
      refine e_seq ?_
      refine k_ret ?_
      refine e_block_ret ?_
      refine e_seq_ret ?_
      refine e_loop_ret ?_
      refine e_block_ret ?_
      refine e_seq_ret ?_
      refine gives_mk (L := [0, 1]) (slots := [4]) (w := 2) (.inr rfl) zr (gcVs_cons zh (gcV_free rfl) gcVs_nil) (gcH_cons (gcO_old (by rfl) zh) (gcH_cons (gcO_old (by rfl) zh) gcH_nil)) zr (by simp only [Tryz.results5, resA, cst, mkE, Tr.get_set, reduceIte, Nat.reduceEqDiff, Nat.reduceAdd] <;> rfl) ?_
      simp only [one, val_apart]
      first
       | rw [ap_clkA h0 (by omega) (by assumption)]
       | rw [ap_clkB k0 (by omega) (by assumption)]
       | rw [ap_noHit (all_end (by omega) h2) (all_end (by omega) k2) (all_end (f := fun y => !hitB L y) (by omega) k3)]
       | rw [ap_hit (k := k) k0 (by omega) (by unfold hitB chg; simp only [p9, p13, p14, p15, Bool.true_and, Bool.or_true, Bool.true_or])]
     ·have p15 := g15; try simp only [d1, d2, d3, d4, d5, d6, d7, d8, d9] at p15
      refine o_step (wA_on rfl rfl (by simp only [Tr.get_set, reduceIte, Nat.reduceEqDiff, Nat.reduceAdd, g9, g13, g14, g15] <;> rfl)) rfl (x_field (off' := 2) rfl zt Tryz.underlying34 rfl T.s4 rfl) (by decide) ?_
      refine o_step (wA_on rfl rfl (by simp only [Tr.get_set, reduceIte, Nat.reduceEqDiff, Nat.reduceAdd, g9, g13, g14, g15] <;> rfl)) rfl (x_load1 rfl zt T.g4 (l_boxB (whole_row zh rfl) (by (first | assumption | (exact cf_nth (by assumption) (by omega) (by omega)))) rfl)) (by decide) ?_
      refine o_step (wA_on rfl rfl (by simp only [Tr.get_set, reduceIte, Nat.reduceEqDiff, Nat.reduceAdd, g9, g13, g14, g15] <;> rfl)) rfl (x_pick rfl (by simp only [Tr.get_set, reduceIte, Nat.reduceEqDiff, Nat.reduceAdd, ev_tmp, g9, g13, g14, g15] <;> rfl) (by simp only [if_true, if_false, Bool.false_eq_true, ev_tmp, Tr.get_set, reduceIte, Nat.reduceEqDiff, Nat.reduceAdd, g9, g13, g14, g15]; rfl)) (by decide) ?_
      refine o_step (wA_on rfl rfl (by simp only [Tr.get_set, reduceIte, Nat.reduceEqDiff, Nat.reduceAdd, g9, g13, g14, g15] <;> rfl)) rfl (x_pick rfl (by simp only [Tr.get_set, reduceIte, Nat.reduceEqDiff, Nat.reduceAdd, ev_tmp, g9, g13, g14, g15] <;> rfl) (by simp only [if_true, if_false, Bool.false_eq_true, ev_tmp, Tr.get_set, reduceIte, Nat.reduceEqDiff, Nat.reduceAdd, g9, g13, g14, g15]; rfl)) (by decide) ?_
      refine os (x_pick rfl (by simp only [Tr.get_set, reduceIte, Nat.reduceEqDiff, Nat.reduceAdd, ev_tmp, g9, g13, g14, g15] <;> rfl) (by simp only [if_true, if_false, Bool.false_eq_true, ev_tmp, Tr.get_set, reduceIte, Nat.reduceEqDiff, Nat.reduceAdd, g9, g13, g14, g15]; rfl)) ?_
      refine o_done ?_
      refine e_seq ?_
      refine k_cond (by simp only [Tr.get_set, reduceIte, Nat.reduceEqDiff, Nat.reduceAdd, ev_tmp, g9, g13, g14, g15] <;> rfl) (fun g17 => ?_) (fun g17 => ?_)
      ·have p17 := g17; try simp only [d1, d2, d3, d4, d5, d6, d7, d8, d9] at p17
       refine k_seq ?_
       refine k_region hP hC ?_
       refine os (x_assign rfl (by rfl)) ?_
       refine o_done ?_
       refine e_seq ?_
       refine k_ret ?_
       refine e_block_ret ?_
       refine e_seq_ret ?_
       refine e_loop_ret ?_
       refine e_block_ret ?_
       refine e_seq_ret ?_
       refine gives_mk (L := [0, 1]) (slots := [4]) (w := 2) (.inr rfl) zr (gcVs_cons zh (gcV_free rfl) gcVs_nil) (gcH_cons (gcO_old (by rfl) zh) (gcH_cons (gcO_old (by rfl) zh) gcH_nil)) zr (by simp only [Tryz.results5, resA, cst, mkE, Tr.get_set, reduceIte, Nat.reduceEqDiff, Nat.reduceAdd] <;> rfl) ?_
       simp only [one, val_apart]
       first
        | rw [ap_clkA h0 (by omega) (by assumption)]
        | rw [ap_clkB k0 (by omega) (by assumption)]
        | rw [ap_noHit (all_end (by omega) h2) (all_end (by omega) k2) (all_end (f := fun y => !hitB L y) (by omega) k3)]
        | rw [ap_hit (k := k) k0 (by omega) (by unfold hitB chg; simp only [p9, p13, p14, p15, p17, Bool.true_and, Bool.or_true, Bool.true_or])]
      ·have p17 := g17; try simp only [d1, d2, d3, d4, d5, d6, d7, d8, d9] at p17
       refine k_skip ?_
       refine e_block ?_
       refine e_seq ?_
       refine k_region hP hC ?_
       refine os (x_bin rfl zt (by rfl) b_add) ?_
       refine os (x_move rfl zt) ?_
       refine o_done ?_
       refine e_loop ?_
       refine ⟨IntKind.i64.wrap (k + 1), (to_mk (L := [0, 1, 2]) (slots := [0, 1, 5, 38, 39, 40]) (w := 2) zr (gcVs_cons zh (gcV_sl hs_L rfl) (gcVs_cons zh (gcV_sl hs_M rfl) (gcVs_cons zh (gcV_map rfl) (gcVs_cons zh (gcV_sl hs_M rfl) (gcVs_cons zh (gcV_free rfl) (gcVs_cons zh (gcV_free rfl) gcVs_nil)))))) (gcH_cons (gcO_old (by rfl) zh) (gcH_cons (gcO_old (by rfl) zh) (gcH_cons (gcO_map (by rfl) zh (gcM_free (met_free _))) gcH_nil))) zr), ?_, ?_⟩
       ·rw [wr1 (by omega) (by omega)]; exact ⟨by omega, by omega, all_next (f := fun y => !clk y) k0 (by omega) k2 (clk_f (by assumption)), all_next (f := fun y => !hitB L y) k0 (by omega) k3 (by unfold hitB chg; simp only [p9, p13, p14, p15, p17, Bool.false_and, Bool.true_and, Bool.or_false, Bool.not_false, Bool.or_self])⟩
       ·rw [wr1 (by omega) (by omega)]; omega
    ·have p14 := g14; try simp only [d1, d2, d3, d4, d5, d6, d7, d8, d9] at p14
     refine o_skip (wA_off rfl rfl (by simp only [Tr.get_set, reduceIte, Nat.reduceEqDiff, Nat.reduceAdd, g9, g13, g14] <;> rfl)) rfl (by decide) ?_
     refine o_skip (wA_off rfl rfl (by simp only [Tr.get_set, reduceIte, Nat.reduceEqDiff, Nat.reduceAdd, g9, g13, g14] <;> rfl)) rfl (by decide) ?_
     refine o_skip (wA_undef rfl rfl (by simp only [Tr.get_set, reduceIte, Nat.reduceEqDiff, Nat.reduceAdd, g9, g13, g14] <;> rfl)) rfl (by decide) ?_
     refine o_skip (wA_undef rfl rfl (by simp only [Tr.get_set, reduceIte, Nat.reduceEqDiff, Nat.reduceAdd, g9, g13, g14] <;> rfl)) rfl (by decide) ?_
     refine o_skip (wA_off rfl rfl (by simp only [Tr.get_set, reduceIte, Nat.reduceEqDiff, Nat.reduceAdd, g9, g13, g14] <;> rfl)) rfl (by decide) ?_
     refine o_step (wA_on rfl rfl (by simp only [Tr.get_set, reduceIte, Nat.reduceEqDiff, Nat.reduceAdd, g9, g13, g14] <;> rfl)) rfl (x_pick rfl (by simp only [Tr.get_set, reduceIte, Nat.reduceEqDiff, Nat.reduceAdd, ev_tmp, g9, g13, g14] <;> rfl) (by simp only [if_true, if_false, Bool.false_eq_true, ev_tmp, Tr.get_set, reduceIte, Nat.reduceEqDiff, Nat.reduceAdd, g9, g13, g14]; rfl)) (by decide) ?_
     refine os (x_pick rfl (by simp only [Tr.get_set, reduceIte, Nat.reduceEqDiff, Nat.reduceAdd, ev_tmp, g9, g13, g14] <;> rfl) (by simp only [if_true, if_false, Bool.false_eq_true, ev_tmp, Tr.get_set, reduceIte, Nat.reduceEqDiff, Nat.reduceAdd, g9, g13, g14]; rfl)) ?_
     refine o_done ?_
     refine e_seq ?_
     refine k_condF (by simp only [Tr.get_set, reduceIte, Nat.reduceEqDiff, Nat.reduceAdd, ev_tmp, g9, g13, g14] <;> rfl) ?_
     refine k_skip ?_
     refine e_block ?_
     refine e_seq ?_
     refine k_region hP hC ?_
     refine os (x_bin rfl zt (by rfl) b_add) ?_
     refine os (x_move rfl zt) ?_
     refine o_done ?_
     refine e_loop ?_
     refine ⟨IntKind.i64.wrap (k + 1), (to_mk (L := [0, 1, 2]) (slots := [0, 1, 5, 38, 39, 40]) (w := 2) zr (gcVs_cons zh (gcV_sl hs_L rfl) (gcVs_cons zh (gcV_sl hs_M rfl) (gcVs_cons zh (gcV_map rfl) (gcVs_cons zh (gcV_sl hs_M rfl) (gcVs_cons zh (gcV_free rfl) (gcVs_cons zh (gcV_free rfl) gcVs_nil)))))) (gcH_cons (gcO_old (by rfl) zh) (gcH_cons (gcO_old (by rfl) zh) (gcH_cons (gcO_map (by rfl) zh (gcM_free (met_free _))) gcH_nil))) zr), ?_, ?_⟩
     ·rw [wr1 (by omega) (by omega)]; exact ⟨by omega, by omega, all_next (f := fun y => !clk y) k0 (by omega) k2 (clk_f (by assumption)), all_next (f := fun y => !hitB L y) k0 (by omega) k3 (by unfold hitB chg; simp only [p9, p13, p14, Bool.false_and, Bool.true_and, Bool.or_false, Bool.not_false, Bool.or_self])⟩
     ·rw [wr1 (by omega) (by omega)]; omega
  ·have p9 := g9; try simp only [d1, d2, d3, d4, d5, d6, d7, d8, d9] at p9
   refine k_exit ?_
   refine e_seq_exit ?_
   refine e_loop_exit ?_
   refine e_block_eq ?_
   refine e_seq ?_
   refine k_seq ?_
   refine k_region hP hC ?_
   refine os (x_assign rfl (by rfl)) ?_
   refine o_done ?_
   refine e_seq ?_
   refine k_ret ?_
   refine gives_mk (L := [0, 1]) (slots := [4]) (w := 2) (.inr rfl) zr (gcVs_cons zh (gcV_free rfl) gcVs_nil) (gcH_cons (gcO_old (by rfl) zh) (gcH_cons (gcO_old (by rfl) zh) gcH_nil)) zr (by simp only [Tryz.results5, resA, cst, mkE, Tr.get_set, reduceIte, Nat.reduceEqDiff, Nat.reduceAdd] <;> rfl) ?_
   simp only [one, val_apart]
   first
    | rw [ap_clkA h0 (by omega) (by assumption)]
    | rw [ap_clkB k0 (by omega) (by assumption)]
    | rw [ap_noHit (all_end (by omega) h2) (all_end (by omega) k2) (all_end (f := fun y => !hitB L y) (by omega) k3)]
    | rw [ap_hit (k := k) k0 (by omega) (by unfold hitB chg; simp only [p9, Bool.true_and, Bool.or_true, Bool.true_or])]
theorem con_apart : Con Tryz.prog 5 c_apart := con_flat Tryz.func5 rfl fun us cs v new h => by
 unfold spec_apart at h
 split at h
 case h_2 => cases h
 rename_i s_L s_M c_L c_M
 split at h
 case isFalse => cases h
 rename_i hc
 try simp only [Bool.and_eq_true] at hc
 obtain ⟨⟨⟨⟨q_L, r_L⟩, q_M⟩, r_M⟩, hok⟩ := hc
 cases h
 obtain ⟨h_L, e_L⟩ := isRows_cfs (by decide) r_L
 have hs_L := slOk_sl (n := (chunks 3 c_L).length) q_L (by decide) (rows_len (ks := T.K34) (by decide) r_L)
 obtain ⟨h_M, e_M⟩ := isRows_cfs (by decide) r_M
 have hs_M := slOk_sl (n := (chunks 3 c_M).length) q_M (by decide) (rows_len (ks := T.K34) (by decide) r_M)
 have key := apart_m hs_L h_L hs_M h_M hok
 have hrows : [(chunks T.K34.length c_L).flatten, (chunks T.K34.length c_M).flatten] = [c_L, c_M] := by rw [e_L, e_M]
 rw [← hrows]
 exact key
theorem apart_c {H : AH} {s_L : Value} {s_M : Value} {L : List (List Value)} {M : List (List Value)} (hr_L : Rd H 3 s_L L.length L.flatten) (h_L : cfs T.K34 L) (hr_M : Rd H 3 s_M M.length M.flatten) (h_M : cfs T.K34 M) (hok : ok_apart L M = true) : c_apart [s_L, s_M] H = some (.bool (apB L M), H) := by
 obtain ⟨u_L, a_L, b_L⟩ := hr_L 0
 obtain ⟨u_M, a_M, b_M⟩ := hr_M 1
 have k_L := isRows_flat (by decide) h_L
 have k2_L : chunks 3 L.flatten = L := k_L.2
 have k_M := isRows_flat (by decide) h_M
 have k2_M : chunks 3 M.flatten = M := k_M.2
 exact flatC_at (v := val_apart L M) (new := new_apart L M) (cl_sl a_L (cl_sl a_M cl_nil)) (by simp only [spec_apart, sl_slOk b_L (cfs_len h_L), k_L.1, k2_L, sl_slOk b_M (cfs_len h_M), k_M.1, k2_M, hok, Bool.and_self, if_true]) (rfl) (gcV_free rfl)
end Go.Proofs.YtlhlkjhjoalhoaaGreatDoor
