/-
  Contracts: the agreed answers.
-/
import Derived.Test.YtohhcnehcjpekaaCCk
namespace Go.Proofs.Ytohhcnehcjpekaa
open Go.AM
set_option maxRecDepth 100000
set_option maxHeartbeats 1000000
set_option linter.unusedSimpArgs false
set_option linter.unusedVariables false
def agFirst (L : List (List Value)) (i k : Int) : Bool := (List.range k.toNat).all fun (j : Nat) => !eqCs (askC (nth L j)) (askC (nth L i))
def agHit (L : List (List Value)) (F i k : Int) : Bool := eqCs (askC (nth L k)) (askC (nth L i)) && decide (giversN L (nth L k) > F)
def agF (L : List (List Value)) (F i k : Int) : List Nat := (List.range k.toNat).filter fun (j : Nat) => decide (i ≤ (j : Int)) && agHit L F i j
def agI (L : List (List Value)) (F i k : Int) : List (List Value) := if agFirst L i i then ((agF L F i k).take 1).map fun (j : Nat) => nth L j else []
def agO (L : List (List Value)) (F i : Int) : List (List Value) := (List.range i.toNat).flatMap fun (j : Nat) => agI L F j L.length
def agreedL (L : List (List Value)) (F : Int) : List (List Value) := agO L F L.length
theorem agFirst_next {L : List (List Value)} {i k : Int} (h : 0 ≤ k) : agFirst L i (k + 1) = (agFirst L i k && !eqCs (askC (nth L k)) (askC (nth L i))) := by
 unfold agFirst
 rw [show (k + 1).toNat = k.toNat + 1 by omega, List.range_succ, List.all_append]
 simp only [List.all_cons, List.all_nil, Bool.and_true, Int.toNat_of_nonneg h]
theorem agF_next {L : List (List Value)} {F i k : Int} (h : 0 ≤ k) : agF L F i (k + 1) = agF L F i k ++ if (decide (i ≤ k) && agHit L F i k) = true then [k.toNat] else [] := by
 unfold agF
 rw [show (k + 1).toNat = k.toNat + 1 by omega, List.range_succ, List.filter_append, List.filter_cons, List.filter_nil, Int.toNat_of_nonneg h]
theorem agF_start {L : List (List Value)} {F i : Int} (h : 0 ≤ i) : agF L F i i = [] := by
 unfold agF
 rw [List.filter_eq_nil_iff]
 intro j hj
 have := List.mem_range.1 hj
 rw [decide_eq_false (by omega)]
 simp
theorem agI_start {L : List (List Value)} {F i : Int} (h : 0 ≤ i) : agI L F i i = [] := by
 unfold agI
 rw [agF_start h]
 split <;> rfl
theorem agI_skip {L : List (List Value)} {F i k : Int} (h : 0 ≤ k) (h2 : agHit L F i k = false) : agI L F i (k + 1) = agI L F i k := by
 have e : agF L F i (k + 1) = agF L F i k := by rw [agF_next h, h2, Bool.and_false]; simp
 unfold agI
 rw [e]
theorem agI_hit {L : List (List Value)} {F i k : Int} (h : 0 ≤ k) (hi : i ≤ k) (hf : true = (agFirst L i i && (agI L F i k).isEmpty)) (h2 : agHit L F i k = true) : agI L F i (k + 1) = [nth L k] ∧ agI L F i k = [] := by
 have hf := hf.symm
 rw [Bool.and_eq_true] at hf
 have he := List.isEmpty_iff.1 hf.2
 refine ⟨?_, he⟩
 unfold agI at he ⊢
 rw [if_pos hf.1] at he ⊢
 have hF : agF L F i k = [] := by
  rw [List.map_eq_nil_iff] at he
  cases hq : agF L F i k with
  | nil => rfl
  | cons a b => rw [hq] at he; cases he
 rw [agF_next h, h2, decide_eq_true hi, hF]
 simp only [Bool.and_self, if_true, List.nil_append, List.take_succ_cons, List.take_zero, List.map_cons, List.map_nil, Int.toNat_of_nonneg h]
theorem agI_fin {L : List (List Value)} {F i k n : Int} (hk : 0 ≤ k) (hn : k ≤ n) (hf : false = (agFirst L i i && (agI L F i k).isEmpty)) : agI L F i n = agI L F i k := by
 have hf := hf.symm
 unfold agI at hf ⊢
 by_cases h1 : agFirst L i i = true
 ·rw [if_pos h1] at hf ⊢
  rw [if_pos h1]
  rw [h1, Bool.true_and] at hf
  have hx : agF L F i n = agF L F i k ++ (((List.range (n.toNat - k.toNat)).map (k.toNat + ·)).filter fun (j : Nat) => decide (i ≤ (j : Int)) && agHit L F i j) := by
   unfold agF
   rw [show n.toNat = k.toNat + (n.toNat - k.toNat) by omega, List.range_add, List.filter_append, Nat.add_sub_cancel_left]
  cases hq : agF L F i k with
  | nil => rw [hq] at hf; cases hf
  | cons a b => rw [hx, hq]; rfl
 ·rw [if_neg h1, if_neg h1]
theorem agI_len {L : List (List Value)} {F i k : Int} : (agI L F i k).length ≤ 1 := by
 unfold agI
 split
 ·rw [List.length_map, List.length_take]; omega
 ·exact Nat.zero_le _
theorem agO_len {L : List (List Value)} {F i : Int} : (agO L F i).length ≤ i.toNat := by
 unfold agO
 induction i.toNat with
 | zero => simp
 | succ n ih =>
  rw [List.range_succ, List.flatMap_append, List.length_append]
  have := @agI_len L F n L.length
  simp only [List.flatMap_cons, List.flatMap_nil, List.append_nil]
  omega
theorem agO_next {L : List (List Value)} {F i : Int} (h : 0 ≤ i) : agO L F (i + 1) = agO L F i ++ agI L F i L.length := by
 unfold agO
 rw [show (i + 1).toNat = i.toNat + 1 by omega, List.range_succ, List.flatMap_append]
 simp only [List.flatMap_cons, List.flatMap_nil, List.append_nil, Int.toNat_of_nonneg h]
theorem ag_h1 {L : List (List Value)} {F i k : Int} (h : eqCs (askC (nth L k)) (askC (nth L i)) = false) : agHit L F i k = false := by unfold agHit; rw [h]; rfl
theorem ag_h2 {L : List (List Value)} {F i k : Int} (h : giversN L (nth L k) ≤ F) : agHit L F i k = false := by unfold agHit; rw [decide_eq_false (by omega)]; simp
theorem ag_h3 {L : List (List Value)} {F i k : Int} (h : eqCs (askC (nth L k)) (askC (nth L i)) = true) (h2 : F < giversN L (nth L k)) : agHit L F i k = true := by unfold agHit; rw [h, decide_eq_true (by omega)]; rfl
theorem agI_cfs {L : List (List Value)} {F i : Int} (h : cfs T.K43 L) : cfs T.K43 (agI L F i L.length) := by
 intro a ha
 unfold agI at ha
 split at ha
 ·obtain ⟨j, hj, rfl⟩ := List.mem_map.1 ha
  have := List.mem_of_mem_take hj
  unfold agF at this
  have := List.mem_range.1 (List.mem_filter.1 this).1
  exact cf_nth h (by omega) (by omega)
 ·cases ha
theorem agreedL_cfs {L : List (List Value)} {F : Int} (h : cfs T.K43 L) : cfs T.K43 (agreedL L F) := by
 intro a ha
 obtain ⟨j, _, hj⟩ := List.mem_flatMap.1 ha
 exact agI_cfs h a hj
def ok_agreed33 (L : List (List Value)) (F : Int) : Bool := decide (L.length ≤ 1000)
def val_agreed33 (L : List (List Value)) (F : Int) : Value := outV 1 46 (agreedL L F).length
def new_agreed33 (L : List (List Value)) (F : Int) : List (List Value) := outN (agreedL L F).length (agreedL L F).flatten
def spec_agreed33 : Go.AM.Spec := fun us cs => match us, cs with
 | [s_L, .int .i64 F], [c_L] => if slOk 0 46 c_L s_L && isRows T.K43 c_L && ok_agreed33 (chunks 46 c_L) F then some (val_agreed33 (chunks 46 c_L) F, new_agreed33 (chunks 46 c_L) F) else none
 | _, _ => none
def c_agreed33 := flatC [.sl 46, .fr] spec_agreed33
theorem agreed33_m {s_L : Value} {L : List (List Value)} {F : Int} (hs_L : Sl 0 46 L.length s_L) (h_L : cfs T.K43 L) (hok : ok_agreed33 L F = true) : Meets Try.prog (.func 17) [s_L, .int .i64 F] (cheap [L.flatten]) (val_agreed33 L F) (rheap [L.flatten] (new_agreed33 L F)) := by
 have hP := Fits
 have hC : CallSound Try.prog (tabOf [(37, c_givers)]) := tab_sound (tab_cons con_givers tab_end)
 simp only [ok_agreed33, Bool.and_eq_true, decide_eq_true_eq] at hok
 have hb := hok
 refine meets_start (sz := 74) hP Try.func17 rfl rfl zo (by simp only [Tr.ofList, roRows, Nat.zero_add, Nat.reduceAdd] <;> rfl) zl ?_
 refine k_seq ?_
 refine k_region hP hC ?_
 refine os (x_assign rfl (by rfl)) ?_
 refine o_done ?_
 refine e_seq ?_
 refine k_seq ?_
 refine k_region hP hC ?_
 refine os (x_assign rfl (by rfl)) ?_
 refine o_done ?_
 refine e_seq ?_
 refine k_seq ?_
 refine k_seq ?_
 refine k_region hP hC ?_
 refine os (x_assign rfl (by rfl)) ?_
 refine o_done ?_
 refine e_seq ?_
 refine k_block ?_
 refine k_loop (α := Bool × Int × List (List Value)) (fun z => match z with | (false, i, acc) => cst 74 [0, 1, 5, 6] [s_L, .int .i64 F, .slice none 0 0, .int .i64 i] [.row L.flatten 0 BIG true L.flatten.length] 1 | (true, i, acc) => cst 74 [0, 1, 5, 6] [s_L, .int .i64 F, .slice (some ⟨1, 0, none⟩) acc.length (acc.length + 46), .int .i64 i] [.row L.flatten 0 BIG true L.flatten.length, .row acc.flatten 1 BIG false acc.flatten.length] 1) (fun z => match z with | (b, i, acc) => 0 ≤ i ∧ i ≤ L.length ∧ acc = agO L F i ∧ acc.isEmpty = !b ∧ cfs T.K43 acc) (fun z => match z with | (_, i, _) => (L.length - i).toNat) (false, 0, []) (to_mk (L := [0]) (slots := [0, 1, 5, 6]) (w := 1) zr (gcVs_cons zh (gcV_sl hs_L rfl) (gcVs_cons zh (gcV_free rfl) (gcVs_cons zh (gcV_free rfl) (gcVs_cons zh (gcV_free rfl) gcVs_nil)))) (gcH_cons (gcO_old (by rfl) zh) gcH_nil) zr) ⟨by omega, by omega, rfl, rfl, cfs_nil⟩ ?_
 rintro ⟨_ | _, i, acc⟩ ⟨h0, h1, h2, h3, hc⟩
 ·skip
  have hacc : acc = [] := List.isEmpty_iff.1 h3
  refine k_cst zm zo zl ?_
  refine k_seq ?_
  refine k_seq ?_
  refine k_region hP hC ?_
  refine os (x_move rfl zt) ?_
  refine os (x_move rfl zt) ?_
  refine os (x_lenS hs_L rfl rfl zv rfl Try.underlying23) ?_
  refine os (x_bin rfl zt zt b_lss) ?_
  refine o_done ?_
  refine e_seq ?_
  refine k_cond zt (fun g2 => ?_) (fun g2 => ?_)
  ·have p2 := g2; try simp only [d1, d2, d3, d4, d5, d6, d7, d8, d9] at p2
   refine k_skip ?_
   refine e_seq ?_
   refine k_seq ?_
   refine k_block ?_
   refine k_seq ?_
   refine k_region hP hC ?_
   refine os (x_assign rfl (by rfl)) ?_
   refine o_done ?_
   refine e_seq ?_
   refine k_seq ?_
   refine k_seq ?_
   refine k_region hP hC ?_
   refine os (x_assign rfl (by rfl)) ?_
   refine o_done ?_
   refine e_seq ?_
   refine k_block ?_
   refine k_loop (α := Bool × Int) (fun z => match z with | (f, k) => cst 74 [0, 1, 5, 6, 7, 8] [s_L, .int .i64 F, .slice none 0 0, .int .i64 i, .bool f, .int .i64 k] [.row L.flatten 0 BIG true L.flatten.length] 1) (fun z => match z with | (f, k) => 0 ≤ k ∧ k ≤ i ∧ f = agFirst L i k) (fun z => match z with | (_, k) => (i - k).toNat) (true, 0) (to_mk (L := [0]) (slots := [0, 1, 5, 6, 7, 8]) (w := 1) zr (gcVs_cons zh (gcV_sl hs_L rfl) (gcVs_cons zh (gcV_free rfl) (gcVs_cons zh (gcV_free rfl) (gcVs_cons zh (gcV_free rfl) (gcVs_cons zh (gcV_free rfl) (gcVs_cons zh (gcV_free rfl) gcVs_nil)))))) (gcH_cons (gcO_old (by rfl) zh) gcH_nil) zr) ⟨by omega, by omega, rfl⟩ ?_
   rintro ⟨f, k⟩ ⟨h4, h5, h6⟩
   refine k_cst zm zo zl ?_
   refine k_seq ?_
   refine k_seq ?_
   refine k_region hP hC ?_
   refine os (x_move rfl zt) ?_
   refine os (x_move rfl zt) ?_
   refine os (x_bin rfl zt zt b_lss) ?_
   refine o_done ?_
   refine e_seq ?_
   refine k_cond zt (fun g4 => ?_) (fun g4 => ?_)
   ·have p4 := g4; try simp only [d1, d2, d3, d4, d5, d6, d7, d8, d9] at p4
    refine k_skip ?_
    refine e_seq ?_
    refine k_seq ?_
    refine k_block ?_
    refine k_draw hP hC zr ?_
    refine ds (x_move rfl zt) ?_
    refine ds (x_move rfl zt) ?_
    refine d_guard rfl rfl zh (fun g5 => ?_) (fun g5 => ?_)
    ·have p5 := g5; try simp only [d1, d2, d3, d4, d5, d6, d7, d8, d9] at p5
     refine d_step (wA_on rfl rfl (by simp only [Tr.get_set, reduceIte, Nat.reduceEqDiff, Nat.reduceAdd, g4, g5] <;> rfl)) rfl (x_move rfl zt) (by decide) ?_
     refine d_step (wA_on rfl rfl (by simp only [Tr.get_set, reduceIte, Nat.reduceEqDiff, Nat.reduceAdd, g4, g5] <;> rfl)) rfl (x_move rfl zt) (by decide) ?_
     refine d_step (wA_on rfl rfl (by simp only [Tr.get_set, reduceIte, Nat.reduceEqDiff, Nat.reduceAdd, g4, g5] <;> rfl)) rfl (x_indexS hs_L rfl zt zt Try.underlying23 T.s43 (by omega) (by omega)) (by decide) ?_
     refine d_step (wA_on rfl rfl (by simp only [Tr.get_set, reduceIte, Nat.reduceEqDiff, Nat.reduceAdd, g4, g5] <;> rfl)) rfl (x_fieldK (a := 2) rfl zt Try.underlying43 rfl T.s37 rfl) (by decide) ?_
     refine d_step (wA_on rfl rfl (by simp only [Tr.get_set, reduceIte, Nat.reduceEqDiff, Nat.reduceAdd, g4, g5] <;> rfl)) rfl (x_loadA rfl zt T.g37 T.s37 (l_part (a := 2) (K := 46) (whole_row zh rfl) (by assumption) rfl (by omega) (by omega) (by decide))) (by decide) ?_
     refine d_step (wA_on rfl rfl (by simp only [Tr.get_set, reduceIte, Nat.reduceEqDiff, Nat.reduceAdd, g4, g5] <;> rfl)) rfl (x_move rfl zt) (by decide) ?_
     refine d_step (wA_on rfl rfl (by simp only [Tr.get_set, reduceIte, Nat.reduceEqDiff, Nat.reduceAdd, g4, g5] <;> rfl)) rfl (x_move rfl zt) (by decide) ?_
     refine d_step (wA_on rfl rfl (by simp only [Tr.get_set, reduceIte, Nat.reduceEqDiff, Nat.reduceAdd, g4, g5] <;> rfl)) rfl (x_indexS hs_L rfl zt zt Try.underlying23 T.s43 (by omega) (by omega)) (by decide) ?_
     refine d_step (wA_on rfl rfl (by simp only [Tr.get_set, reduceIte, Nat.reduceEqDiff, Nat.reduceAdd, g4, g5] <;> rfl)) rfl (x_fieldK (a := 2) rfl zt Try.underlying43 rfl T.s37 rfl) (by decide) ?_
     refine d_step (wA_on rfl rfl (by simp only [Tr.get_set, reduceIte, Nat.reduceEqDiff, Nat.reduceAdd, g4, g5] <;> rfl)) rfl (x_loadA rfl zt T.g37 T.s37 (l_part (a := 2) (K := 46) (whole_row zh rfl) (by assumption) rfl (by omega) (by omega) (by decide))) (by decide) ?_
     refine d_step (wA_on rfl rfl (by simp only [Tr.get_set, reduceIte, Nat.reduceEqDiff, Nat.reduceAdd, g4, g5] <;> rfl)) rfl (x_bin rfl zt zt (b_neqA (by decide) T.f37 T.g37 T.q37 zc zc)) (by decide) ?_
     refine ds (x_pick rfl (by simp only [Tr.get_set, reduceIte, Nat.reduceEqDiff, Nat.reduceAdd, ev_tmp, g4, g5] <;> rfl) (by simp only [if_true, if_false, Bool.false_eq_true, ev_tmp, Tr.get_set, reduceIte, Nat.reduceEqDiff, Nat.reduceAdd, g4, g5]; rfl)) ?_
     refine ds (x_assign rfl zt) ?_
     refine d_done ⟨by kernel_rfl, ?_⟩
     refine e_block ?_
     refine e_seq ?_
     refine k_region hP hC ?_
     refine os (x_move rfl zt) ?_
     refine os (x_bin rfl zt (by rfl) b_add) ?_
     refine os (x_assign rfl zt) ?_
     refine o_done ?_
     refine e_loop ?_
     refine ⟨((!eqCs (askC (nth L k)) (askC (nth L i))), IntKind.i64.wrap (k + 1)), (to_mk (L := [0]) (slots := [0, 1, 5, 6, 7, 8]) (w := 1) zr (gcVs_cons zh (gcV_sl hs_L rfl) (gcVs_cons zh (gcV_free rfl) (gcVs_cons zh (gcV_free rfl) (gcVs_cons zh (gcV_free rfl) (gcVs_cons zh (gcV_free rfl) (gcVs_cons zh (gcV_free rfl) gcVs_nil)))))) (gcH_cons (gcO_old (by rfl) zh) gcH_nil) zr), ?_, ?_⟩
     ·rw [wr1 (by omega) (by omega)]; refine ⟨by omega, by omega, ?_⟩
      rw [agFirst_next h4, ← h6]; first | (rw [(by assumption : f = true)]; rfl) | (rw [(by assumption : f = false)]; rfl)
     ·show (i - IntKind.i64.wrap (k + 1)).toNat < (i - k).toNat; rw [wr1 (by omega) (by omega)]; omega
    ·have p5 := g5; try simp only [d1, d2, d3, d4, d5, d6, d7, d8, d9] at p5
     refine d_skip (wA_off rfl rfl (by simp only [Tr.get_set, reduceIte, Nat.reduceEqDiff, Nat.reduceAdd, g4, g5] <;> rfl)) rfl (by decide) ?_
     refine d_skip (wA_off rfl rfl (by simp only [Tr.get_set, reduceIte, Nat.reduceEqDiff, Nat.reduceAdd, g4, g5] <;> rfl)) rfl (by decide) ?_
     refine d_skip (wA_off rfl rfl (by simp only [Tr.get_set, reduceIte, Nat.reduceEqDiff, Nat.reduceAdd, g4, g5] <;> rfl)) rfl (by decide) ?_
     refine d_skip (wA_off rfl rfl (by simp only [Tr.get_set, reduceIte, Nat.reduceEqDiff, Nat.reduceAdd, g4, g5] <;> rfl)) rfl (by decide) ?_
     refine d_skip (wA_off rfl rfl (by simp only [Tr.get_set, reduceIte, Nat.reduceEqDiff, Nat.reduceAdd, g4, g5] <;> rfl)) rfl (by decide) ?_
     refine d_skip (wA_off rfl rfl (by simp only [Tr.get_set, reduceIte, Nat.reduceEqDiff, Nat.reduceAdd, g4, g5] <;> rfl)) rfl (by decide) ?_
     refine d_skip (wA_off rfl rfl (by simp only [Tr.get_set, reduceIte, Nat.reduceEqDiff, Nat.reduceAdd, g4, g5] <;> rfl)) rfl (by decide) ?_
     refine d_skip (wA_off rfl rfl (by simp only [Tr.get_set, reduceIte, Nat.reduceEqDiff, Nat.reduceAdd, g4, g5] <;> rfl)) rfl (by decide) ?_
     refine d_skip (wA_off rfl rfl (by simp only [Tr.get_set, reduceIte, Nat.reduceEqDiff, Nat.reduceAdd, g4, g5] <;> rfl)) rfl (by decide) ?_
     refine d_skip (wA_off rfl rfl (by simp only [Tr.get_set, reduceIte, Nat.reduceEqDiff, Nat.reduceAdd, g4, g5] <;> rfl)) rfl (by decide) ?_
     refine d_skip (wA_off rfl rfl (by simp only [Tr.get_set, reduceIte, Nat.reduceEqDiff, Nat.reduceAdd, g4, g5] <;> rfl)) rfl (by decide) ?_
     refine ds (x_pick rfl (by simp only [Tr.get_set, reduceIte, Nat.reduceEqDiff, Nat.reduceAdd, ev_tmp, g4, g5] <;> rfl) (by simp only [if_true, if_false, Bool.false_eq_true, ev_tmp, Tr.get_set, reduceIte, Nat.reduceEqDiff, Nat.reduceAdd, g4, g5]; rfl)) ?_
     refine ds (x_assign rfl zt) ?_
     refine d_done ⟨by kernel_rfl, ?_⟩
     refine e_block ?_
     refine e_seq ?_
     refine k_region hP hC ?_
     refine os (x_move rfl zt) ?_
     refine os (x_bin rfl zt (by rfl) b_add) ?_
     refine os (x_assign rfl zt) ?_
     refine o_done ?_
     refine e_loop ?_
     refine ⟨(false, IntKind.i64.wrap (k + 1)), (to_mk (L := [0]) (slots := [0, 1, 5, 6, 7, 8]) (w := 1) zr (gcVs_cons zh (gcV_sl hs_L rfl) (gcVs_cons zh (gcV_free rfl) (gcVs_cons zh (gcV_free rfl) (gcVs_cons zh (gcV_free rfl) (gcVs_cons zh (gcV_free rfl) (gcVs_cons zh (gcV_free rfl) gcVs_nil)))))) (gcH_cons (gcO_old (by rfl) zh) gcH_nil) zr), ?_, ?_⟩
     ·rw [wr1 (by omega) (by omega)]; refine ⟨by omega, by omega, ?_⟩
      rw [agFirst_next h4, ← h6]; first | (rw [(by assumption : f = true)]; rfl) | (rw [(by assumption : f = false)]; rfl)
     ·show (i - IntKind.i64.wrap (k + 1)).toNat < (i - k).toNat; rw [wr1 (by omega) (by omega)]; omega
   ·have p4 := g4; try simp only [d1, d2, d3, d4, d5, d6, d7, d8, d9] at p4
    refine k_exit ?_
    refine e_seq_exit ?_
    refine e_loop_exit ?_
    refine e_block_eq ?_
    refine e_seq ?_
    refine k_seq ?_
    refine k_region hP hC ?_
    refine os (x_move rfl zt) ?_
    refine os (x_assign rfl zt) ?_
    refine o_done ?_
    refine e_seq ?_
    refine k_block ?_
    have hki : k = i := by omega
    rw [hki] at h6
    refine k_loop (α := Bool × Bool × Int × List (List Value)) (fun z => match z with | (false, f, k, acc) => cst 74 [0, 1, 5, 6, 7, 9] [s_L, .int .i64 F, .slice none 0 0, .int .i64 i, .bool f, .int .i64 k] [.row L.flatten 0 BIG true L.flatten.length] 1 | (true, f, k, acc) => cst 74 [0, 1, 5, 6, 7, 9] [s_L, .int .i64 F, .slice (some ⟨1, 0, none⟩) acc.length (acc.length + 46), .int .i64 i, .bool f, .int .i64 k] [.row L.flatten 0 BIG true L.flatten.length, .row acc.flatten 1 BIG false acc.flatten.length] 1) (fun z => match z with | (b, f, k, acc) => i ≤ k ∧ k ≤ L.length ∧ acc = agO L F i ++ agI L F i k ∧ f = (agFirst L i i && (agI L F i k).isEmpty) ∧ acc.isEmpty = !b ∧ cfs T.K43 acc) (fun z => match z with | (_, _, k, _) => (L.length - k).toNat) (false, f, i, acc) (to_mk (L := [0]) (slots := [0, 1, 5, 6, 7, 9]) (w := 1) zr (gcVs_cons zh (gcV_sl hs_L rfl) (gcVs_cons zh (gcV_free rfl) (gcVs_cons zh (gcV_free rfl) (gcVs_cons zh (gcV_free rfl) (gcVs_cons zh (gcV_free rfl) (gcVs_cons zh (gcV_free rfl) gcVs_nil)))))) (gcH_cons (gcO_old (by rfl) zh) gcH_nil) zr) ⟨by omega, by omega, by rw [agI_start h0, List.append_nil]; exact h2, by rw [agI_start h0, h6]; simp, h3, hc⟩ ?_
    clear h2 h3 hc h6 h5 h4 hki hacc
    rintro ⟨_ | _, f, k, acc⟩ ⟨h4, h5, h2, h6, h3, hc⟩
    ·skip
     have hacc : acc = [] := List.isEmpty_iff.1 h3
     refine k_cst zm zo zl ?_
     refine k_seq ?_
     refine k_seq ?_
     refine k_region hP hC ?_
     refine os (x_move rfl zt) ?_
     refine os (x_move rfl zt) ?_
     refine os (x_lenS hs_L rfl rfl zv rfl Try.underlying23) ?_
     refine os (x_bin rfl zt zt b_lss) ?_
     refine os (x_move rfl zt) ?_
     refine o_guard rfl rfl zh (fun g8 => ?_) (fun g8 => ?_)
     ·have p8 := g8; try simp only [d1, d2, d3, d4, d5, d6, d7, d8, d9] at p8
      refine o_step (wA_on rfl rfl (by simp only [Tr.get_set, reduceIte, Nat.reduceEqDiff, Nat.reduceAdd, g8] <;> rfl)) rfl (x_move rfl zt) (by decide) ?_
      refine os (x_pick rfl (by simp only [Tr.get_set, reduceIte, Nat.reduceEqDiff, Nat.reduceAdd, ev_tmp, g8] <;> rfl) (by simp only [if_true, if_false, Bool.false_eq_true, ev_tmp, Tr.get_set, reduceIte, Nat.reduceEqDiff, Nat.reduceAdd, g8]; rfl)) ?_
      refine o_done ?_
      refine e_seq ?_
      refine k_cond (by simp only [Tr.get_set, reduceIte, Nat.reduceEqDiff, Nat.reduceAdd, ev_tmp, g8] <;> rfl) (fun g9 => ?_) (fun g9 => ?_)
      ·have p9 := g9; try simp only [d1, d2, d3, d4, d5, d6, d7, d8, d9] at p9
       refine k_skip ?_
       refine e_seq ?_
       refine k_seq ?_
       refine k_block ?_
       refine k_seq ?_
       refine k_draw hP hC zr ?_
       refine ds (x_move rfl zt) ?_
       refine ds (x_move rfl zt) ?_
       refine ds (x_indexS hs_L rfl zt zt Try.underlying23 T.s43 (by omega) (by omega)) ?_
       refine ds (x_fieldK (a := 2) rfl zt Try.underlying43 rfl T.s37 rfl) ?_
       refine ds (x_loadA rfl zt T.g37 T.s37 (l_part (a := 2) (K := 46) (whole_row zh rfl) (by assumption) rfl (by omega) (by omega) (by decide))) ?_
       refine ds (x_move rfl zt) ?_
       refine ds (x_move rfl zt) ?_
       refine ds (x_indexS hs_L rfl zt zt Try.underlying23 T.s43 (by omega) (by omega)) ?_
       refine ds (x_fieldK (a := 2) rfl zt Try.underlying43 rfl T.s37 rfl) ?_
       refine ds (x_loadA rfl zt T.g37 T.s37 (l_part (a := 2) (K := 46) (whole_row zh rfl) (by assumption) rfl (by omega) (by omega) (by decide))) ?_
       refine ds (x_bin rfl zt zt (b_eqlA (by decide) T.f37 T.g37 T.q37 zc zc)) ?_
       refine ds (x_move rfl zt) ?_
       refine d_guard rfl rfl zh (fun g11 => ?_) (fun g11 => ?_)
       ·have p11 := g11; try simp only [d1, d2, d3, d4, d5, d6, d7, d8, d9] at p11
        refine d_step (wA_on rfl rfl (by simp only [Tr.get_set, reduceIte, Nat.reduceEqDiff, Nat.reduceAdd, g8, g9, g11] <;> rfl)) rfl (x_move rfl zt) (by decide) ?_
        refine d_step (wA_on rfl rfl (by simp only [Tr.get_set, reduceIte, Nat.reduceEqDiff, Nat.reduceAdd, g8, g9, g11] <;> rfl)) rfl (x_move rfl zt) (by decide) ?_
        refine d_step (wA_on rfl rfl (by simp only [Tr.get_set, reduceIte, Nat.reduceEqDiff, Nat.reduceAdd, g8, g9, g11] <;> rfl)) rfl (x_move rfl zt) (by decide) ?_
        refine d_step (wA_on rfl rfl (by simp only [Tr.get_set, reduceIte, Nat.reduceEqDiff, Nat.reduceAdd, g8, g9, g11] <;> rfl)) rfl (x_indexS hs_L rfl zt zt Try.underlying23 T.s43 (by omega) (by omega)) (by decide) ?_
        refine d_step (wA_on rfl rfl (by simp only [Tr.get_set, reduceIte, Nat.reduceEqDiff, Nat.reduceAdd, g8, g9, g11] <;> rfl)) rfl (x_loadA rfl zt T.g43 T.s43 (l_elem (whole_row zh rfl) (by assumption) rfl (by omega) (by omega))) (by decide) ?_
        refine d_call0 (wA_on rfl rfl (by simp only [Tr.get_set, reduceIte, Nat.reduceEqDiff, Nat.reduceAdd, g8, g9, g11] <;> rfl)) rfl rfl rfl zv (by decide) ?_
        refine ⟨_, _, _, _, (tab_hit.trans (givers_c (rd_sl hs_L (by decide) (whole_row zh rfl) (cfs_len h_L).symm (cfs_free0 h_L)) h_L zc (by rw [ok_givers, decide_eq_true hb]))), ?_⟩
        refine d_step (wA_on rfl rfl (by simp only [Tr.get_set, reduceIte, Nat.reduceEqDiff, Nat.reduceAdd, g8, g9, g11] <;> rfl)) rfl (x_move rfl zt) (by decide) ?_
        refine d_step (wA_on rfl rfl (by simp only [Tr.get_set, reduceIte, Nat.reduceEqDiff, Nat.reduceAdd, g8, g9, g11] <;> rfl)) rfl (x_bin rfl zt zt b_gtr) (by decide) ?_
        refine ds (x_pick rfl (by simp only [Tr.get_set, reduceIte, Nat.reduceEqDiff, Nat.reduceAdd, ev_tmp, g8, g9, g11] <;> rfl) (by simp only [if_true, if_false, Bool.false_eq_true, ev_tmp, Tr.get_set, reduceIte, Nat.reduceEqDiff, Nat.reduceAdd, g8, g9, g11]; rfl)) ?_
        refine d_done ⟨by kernel_rfl, ?_⟩
        refine e_seq ?_
        refine k_cond (by simp only [Tr.get_set, reduceIte, Nat.reduceEqDiff, Nat.reduceAdd, ev_tmp, g8, g9, g11] <;> rfl) (fun g13 => ?_) (fun g13 => ?_)
        ·have p13 := g13; try simp only [d1, d2, d3, d4, d5, d6, d7, d8, d9] at p13
         refine k_seq ?_
         refine k_region hP hC ?_
         refine os (x_move rfl zt) ?_
         refine os (x_move rfl zt) ?_
         refine os (x_move rfl zt) ?_
         refine os (x_indexS hs_L rfl zt zt Try.underlying23 T.s43 (by omega) (by omega)) ?_
         refine os (x_loadA rfl zt T.g43 T.s43 (l_elem (whole_row zh rfl) (by assumption) rfl (by omega) (by omega))) ?_
         refine os (y_bsliceA rfl zt Try.underlying23 T.s43 T.z43 (by decide) rfl rfl (cf_len (ks := T.K43) (by first | rfl | assumption | (apply cf_part; (first | assumption | (exact cf_nth (by assumption) (by omega) (by omega))); rfl) | (exact cf_nth (by assumption) (by omega) (by omega)))) (by decide)) ?_
         refine os (x_append rfl rfl zv rfl rfl zr (cells_row Try.underlying23 T.s43 (l_all (whole_row zh rfl) (by rw [Nat.one_mul]; exact (cf_len (ks := T.K43) zc).symm))) (ya_nil Try.underlying23 T.i23 (by decide) (by rw [Nat.one_mul]; exact (cf_len (ks := T.K43) zc)) (by decide) (by decide) (cf_oneC (ks := T.K43) zc) (by decide))) ?_
         refine os (x_assign rfl zt) ?_
         refine o_done ?_
         refine e_seq ?_
         refine k_region hP hC ?_
         refine os (x_assign rfl (by rfl)) ?_
         refine o_done ?_
         refine e_block ?_
         refine e_seq ?_
         refine k_region hP hC ?_
         refine os (x_move rfl zt) ?_
         refine os (x_bin rfl zt (by rfl) b_add) ?_
         refine os (x_assign rfl zt) ?_
         refine o_done ?_
         refine e_loop ?_
         refine ⟨(true, false, IntKind.i64.wrap (k + 1), [nth L k]), (to_mk (L := [0, 2]) (slots := [0, 1, 5, 6, 7, 9]) (w := 1) zr (gcVs_cons zh (gcV_sl hs_L rfl) (gcVs_cons zh (gcV_free rfl) (gcVs_cons zh (gcV_slice rfl) (gcVs_cons zh (gcV_free rfl) (gcVs_cons zh (gcV_free rfl) (gcVs_cons zh (gcV_free rfl) gcVs_nil)))))) (gcH_cons (gcO_old (by rfl) zh) (gcH_cons (gcO_rowE (by rfl) zh (gcD_free (cf_free1 (ks := T.K43) zc)) (by simp only [List.flatten_append, List.flatten_cons, List.flatten_nil, List.append_nil, List.nil_append])) gcH_nil)) zr), ?_, ?_⟩
         ·rw [wr1 (by omega) (by omega)]; refine ⟨by omega, by omega, ?_, ?_, ?_, ?_⟩
          ·have hh := agI_hit (by omega) h4 (by rw [← h6]; exact (by assumption : f = true).symm) (ag_h3 (by assumption) (by assumption))
           rw [hh.1]; rw [hh.2, List.append_nil] at h2; rw [← h2]; rw [hacc]; rfl
          ·have hh := agI_hit (by omega) h4 (by rw [← h6]; exact (by assumption : f = true).symm) (ag_h3 (by assumption) (by assumption))
           rw [hh.1]; simp
          ·rfl
          ·exact cfs_one zc
         ·show (L.length - IntKind.i64.wrap (k + 1)).toNat < (L.length - k).toNat; rw [wr1 (by omega) (by omega)]; omega
        ·have p13 := g13; try simp only [d1, d2, d3, d4, d5, d6, d7, d8, d9] at p13
         refine k_skip ?_
         refine e_block ?_
         refine e_seq ?_
         refine k_region hP hC ?_
         refine os (x_move rfl zt) ?_
         refine os (x_bin rfl zt (by rfl) b_add) ?_
         refine os (x_assign rfl zt) ?_
         refine o_done ?_
         refine e_loop ?_
         refine ⟨(false, f, IntKind.i64.wrap (k + 1), acc), (to_mk (L := [0]) (slots := [0, 1, 5, 6, 7, 9]) (w := 1) zr (gcVs_cons zh (gcV_sl hs_L rfl) (gcVs_cons zh (gcV_free rfl) (gcVs_cons zh (gcV_free rfl) (gcVs_cons zh (gcV_free rfl) (gcVs_cons zh (gcV_free rfl) (gcVs_cons zh (gcV_free rfl) gcVs_nil)))))) (gcH_cons (gcO_old (by rfl) zh) gcH_nil) zr), ?_, ?_⟩
         ·rw [wr1 (by omega) (by omega)]; refine ⟨by omega, by omega, ?_, ?_, ?_, ?_⟩
          ·rw [agI_skip (by omega) (by first | exact ag_h1 (by assumption) | exact ag_h2 (by assumption))]; exact h2
          ·rw [agI_skip (by omega) (by first | exact ag_h1 (by assumption) | exact ag_h2 (by assumption))]; exact h6
          ·exact h3
          ·exact hc
         ·show (L.length - IntKind.i64.wrap (k + 1)).toNat < (L.length - k).toNat; rw [wr1 (by omega) (by omega)]; omega
       ·have p11 := g11; try simp only [d1, d2, d3, d4, d5, d6, d7, d8, d9] at p11
        refine d_skip (wA_off rfl rfl (by simp only [Tr.get_set, reduceIte, Nat.reduceEqDiff, Nat.reduceAdd, g8, g9, g11] <;> rfl)) rfl (by decide) ?_
        refine d_skip (wA_off rfl rfl (by simp only [Tr.get_set, reduceIte, Nat.reduceEqDiff, Nat.reduceAdd, g8, g9, g11] <;> rfl)) rfl (by decide) ?_
        refine d_skip (wA_off rfl rfl (by simp only [Tr.get_set, reduceIte, Nat.reduceEqDiff, Nat.reduceAdd, g8, g9, g11] <;> rfl)) rfl (by decide) ?_
        refine d_skip (wA_off rfl rfl (by simp only [Tr.get_set, reduceIte, Nat.reduceEqDiff, Nat.reduceAdd, g8, g9, g11] <;> rfl)) rfl (by decide) ?_
        refine d_skip (wA_off rfl rfl (by simp only [Tr.get_set, reduceIte, Nat.reduceEqDiff, Nat.reduceAdd, g8, g9, g11] <;> rfl)) rfl (by decide) ?_
        refine d_skip (wA_off rfl rfl (by simp only [Tr.get_set, reduceIte, Nat.reduceEqDiff, Nat.reduceAdd, g8, g9, g11] <;> rfl)) rfl (by decide) ?_
        refine d_skip (wA_off rfl rfl (by simp only [Tr.get_set, reduceIte, Nat.reduceEqDiff, Nat.reduceAdd, g8, g9, g11] <;> rfl)) rfl (by decide) ?_
        refine d_skip (wA_off rfl rfl (by simp only [Tr.get_set, reduceIte, Nat.reduceEqDiff, Nat.reduceAdd, g8, g9, g11] <;> rfl)) rfl (by decide) ?_
        refine ds (x_pick rfl (by simp only [Tr.get_set, reduceIte, Nat.reduceEqDiff, Nat.reduceAdd, ev_tmp, g8, g9, g11] <;> rfl) (by simp only [if_true, if_false, Bool.false_eq_true, ev_tmp, Tr.get_set, reduceIte, Nat.reduceEqDiff, Nat.reduceAdd, g8, g9, g11]; rfl)) ?_
        refine d_done ⟨by kernel_rfl, ?_⟩
        refine e_seq ?_
        refine k_condF (by simp only [Tr.get_set, reduceIte, Nat.reduceEqDiff, Nat.reduceAdd, ev_tmp, g8, g9, g11] <;> rfl) ?_
        refine k_skip ?_
        refine e_block ?_
        refine e_seq ?_
        refine k_region hP hC ?_
        refine os (x_move rfl zt) ?_
        refine os (x_bin rfl zt (by rfl) b_add) ?_
        refine os (x_assign rfl zt) ?_
        refine o_done ?_
        refine e_loop ?_
        refine ⟨(false, f, IntKind.i64.wrap (k + 1), acc), (to_mk (L := [0]) (slots := [0, 1, 5, 6, 7, 9]) (w := 1) zr (gcVs_cons zh (gcV_sl hs_L rfl) (gcVs_cons zh (gcV_free rfl) (gcVs_cons zh (gcV_free rfl) (gcVs_cons zh (gcV_free rfl) (gcVs_cons zh (gcV_free rfl) (gcVs_cons zh (gcV_free rfl) gcVs_nil)))))) (gcH_cons (gcO_old (by rfl) zh) gcH_nil) zr), ?_, ?_⟩
        ·rw [wr1 (by omega) (by omega)]; refine ⟨by omega, by omega, ?_, ?_, ?_, ?_⟩
         ·rw [agI_skip (by omega) (by first | exact ag_h1 (by assumption) | exact ag_h2 (by assumption))]; exact h2
         ·rw [agI_skip (by omega) (by first | exact ag_h1 (by assumption) | exact ag_h2 (by assumption))]; exact h6
         ·exact h3
         ·exact hc
        ·show (L.length - IntKind.i64.wrap (k + 1)).toNat < (L.length - k).toNat; rw [wr1 (by omega) (by omega)]; omega
      ·have p9 := g9; try simp only [d1, d2, d3, d4, d5, d6, d7, d8, d9] at p9
       refine k_exit ?_
       refine e_seq_exit ?_
       refine e_loop_exit ?_
       refine e_block_eq ?_
       refine e_block ?_
       refine e_seq ?_
       refine k_region hP hC ?_
       refine os (x_move rfl zt) ?_
       refine os (x_bin rfl zt (by rfl) b_add) ?_
       refine os (x_assign rfl zt) ?_
       refine o_done ?_
       refine e_loop ?_
       refine ⟨(false, IntKind.i64.wrap (i + 1), acc), (to_mk (L := [0]) (slots := [0, 1, 5, 6]) (w := 1) zr (gcVs_cons zh (gcV_sl hs_L rfl) (gcVs_cons zh (gcV_free rfl) (gcVs_cons zh (gcV_free rfl) (gcVs_cons zh (gcV_free rfl) gcVs_nil)))) (gcH_cons (gcO_old (by rfl) zh) gcH_nil) zr), ?_, ?_⟩
       ·rw [wr1 (by omega) (by omega)]; refine ⟨by omega, by omega, ?_, h3, hc⟩
        rw [agO_next h0]
        have hfin : agI L F i L.length = agI L F i k := by
         first | rw [← (show k = (L.length : Int) by omega)] | exact agI_fin (by omega) (by omega) (by rw [← h6]; exact (by assumption : f = false).symm)
        rw [hfin]; exact h2
       ·show (L.length - IntKind.i64.wrap (i + 1)).toNat < (L.length - i).toNat; rw [wr1 (by omega) (by omega)]; omega
     ·have p8 := g8; try simp only [d1, d2, d3, d4, d5, d6, d7, d8, d9] at p8
      refine o_skip (wA_off rfl rfl (by simp only [Tr.get_set, reduceIte, Nat.reduceEqDiff, Nat.reduceAdd, g8] <;> rfl)) rfl (by decide) ?_
      refine os (x_pick rfl (by simp only [Tr.get_set, reduceIte, Nat.reduceEqDiff, Nat.reduceAdd, ev_tmp, g8] <;> rfl) (by simp only [if_true, if_false, Bool.false_eq_true, ev_tmp, Tr.get_set, reduceIte, Nat.reduceEqDiff, Nat.reduceAdd, g8]; rfl)) ?_
      refine o_done ?_
      refine e_seq ?_
      refine k_condF (by simp only [Tr.get_set, reduceIte, Nat.reduceEqDiff, Nat.reduceAdd, ev_tmp, g8] <;> rfl) ?_
      refine k_exit ?_
      refine e_seq_exit ?_
      refine e_loop_exit ?_
      refine e_block_eq ?_
      refine e_block ?_
      refine e_seq ?_
      refine k_region hP hC ?_
      refine os (x_move rfl zt) ?_
      refine os (x_bin rfl zt (by rfl) b_add) ?_
      refine os (x_assign rfl zt) ?_
      refine o_done ?_
      refine e_loop ?_
      refine ⟨(false, IntKind.i64.wrap (i + 1), acc), (to_mk (L := [0]) (slots := [0, 1, 5, 6]) (w := 1) zr (gcVs_cons zh (gcV_sl hs_L rfl) (gcVs_cons zh (gcV_free rfl) (gcVs_cons zh (gcV_free rfl) (gcVs_cons zh (gcV_free rfl) gcVs_nil)))) (gcH_cons (gcO_old (by rfl) zh) gcH_nil) zr), ?_, ?_⟩
      ·rw [wr1 (by omega) (by omega)]; refine ⟨by omega, by omega, ?_, h3, hc⟩
       rw [agO_next h0]
       have hfin : agI L F i L.length = agI L F i k := by
        first | rw [← (show k = (L.length : Int) by omega)] | exact agI_fin (by omega) (by omega) (by rw [← h6]; exact (by assumption : f = false).symm)
       rw [hfin]; exact h2
      ·show (L.length - IntKind.i64.wrap (i + 1)).toNat < (L.length - i).toNat; rw [wr1 (by omega) (by omega)]; omega
    ·skip
     have hal : acc.length ≤ 1001 := by rw [h2]; rw [List.length_append]; have q1 := @agO_len L F i; have q2 := @agI_len L F i k; omega
     refine k_cst zm zo zl ?_
     refine k_seq ?_
     refine k_seq ?_
     refine k_region hP hC ?_
     refine os (x_move rfl zt) ?_
     refine os (x_move rfl zt) ?_
     refine os (x_lenS hs_L rfl rfl zv rfl Try.underlying23) ?_
     refine os (x_bin rfl zt zt b_lss) ?_
     refine os (x_move rfl zt) ?_
     refine o_guard rfl rfl zh (fun g15 => ?_) (fun g15 => ?_)
     ·have p15 := g15; try simp only [d1, d2, d3, d4, d5, d6, d7, d8, d9] at p15
      refine o_step (wA_on rfl rfl (by simp only [Tr.get_set, reduceIte, Nat.reduceEqDiff, Nat.reduceAdd, g15] <;> rfl)) rfl (x_move rfl zt) (by decide) ?_
      refine os (x_pick rfl (by simp only [Tr.get_set, reduceIte, Nat.reduceEqDiff, Nat.reduceAdd, ev_tmp, g15] <;> rfl) (by simp only [if_true, if_false, Bool.false_eq_true, ev_tmp, Tr.get_set, reduceIte, Nat.reduceEqDiff, Nat.reduceAdd, g15]; rfl)) ?_
      refine o_done ?_
      refine e_seq ?_
      refine k_cond (by simp only [Tr.get_set, reduceIte, Nat.reduceEqDiff, Nat.reduceAdd, ev_tmp, g15] <;> rfl) (fun g16 => ?_) (fun g16 => ?_)
      ·have p16 := g16; try simp only [d1, d2, d3, d4, d5, d6, d7, d8, d9] at p16
       refine k_skip ?_
       refine e_seq ?_
       refine k_seq ?_
       refine k_block ?_
       refine k_seq ?_
       refine k_draw hP hC zr ?_
       refine ds (x_move rfl zt) ?_
       refine ds (x_move rfl zt) ?_
       refine ds (x_indexS hs_L rfl zt zt Try.underlying23 T.s43 (by omega) (by omega)) ?_
       refine ds (x_fieldK (a := 2) rfl zt Try.underlying43 rfl T.s37 rfl) ?_
       refine ds (x_loadA rfl zt T.g37 T.s37 (l_part (a := 2) (K := 46) (whole_row zh rfl) (by assumption) rfl (by omega) (by omega) (by decide))) ?_
       refine ds (x_move rfl zt) ?_
       refine ds (x_move rfl zt) ?_
       refine ds (x_indexS hs_L rfl zt zt Try.underlying23 T.s43 (by omega) (by omega)) ?_
       refine ds (x_fieldK (a := 2) rfl zt Try.underlying43 rfl T.s37 rfl) ?_
       refine ds (x_loadA rfl zt T.g37 T.s37 (l_part (a := 2) (K := 46) (whole_row zh rfl) (by assumption) rfl (by omega) (by omega) (by decide))) ?_
       refine ds (x_bin rfl zt zt (b_eqlA (by decide) T.f37 T.g37 T.q37 zc zc)) ?_
       refine ds (x_move rfl zt) ?_
       refine d_guard rfl rfl zh (fun g18 => ?_) (fun g18 => ?_)
       ·have p18 := g18; try simp only [d1, d2, d3, d4, d5, d6, d7, d8, d9] at p18
        refine d_step (wA_on rfl rfl (by simp only [Tr.get_set, reduceIte, Nat.reduceEqDiff, Nat.reduceAdd, g15, g16, g18] <;> rfl)) rfl (x_move rfl zt) (by decide) ?_
        refine d_step (wA_on rfl rfl (by simp only [Tr.get_set, reduceIte, Nat.reduceEqDiff, Nat.reduceAdd, g15, g16, g18] <;> rfl)) rfl (x_move rfl zt) (by decide) ?_
        refine d_step (wA_on rfl rfl (by simp only [Tr.get_set, reduceIte, Nat.reduceEqDiff, Nat.reduceAdd, g15, g16, g18] <;> rfl)) rfl (x_move rfl zt) (by decide) ?_
        refine d_step (wA_on rfl rfl (by simp only [Tr.get_set, reduceIte, Nat.reduceEqDiff, Nat.reduceAdd, g15, g16, g18] <;> rfl)) rfl (x_indexS hs_L rfl zt zt Try.underlying23 T.s43 (by omega) (by omega)) (by decide) ?_
        refine d_step (wA_on rfl rfl (by simp only [Tr.get_set, reduceIte, Nat.reduceEqDiff, Nat.reduceAdd, g15, g16, g18] <;> rfl)) rfl (x_loadA rfl zt T.g43 T.s43 (l_elem (whole_row zh rfl) (by assumption) rfl (by omega) (by omega))) (by decide) ?_
        refine d_call0 (wA_on rfl rfl (by simp only [Tr.get_set, reduceIte, Nat.reduceEqDiff, Nat.reduceAdd, g15, g16, g18] <;> rfl)) rfl rfl rfl zv (by decide) ?_
        refine ⟨_, _, _, _, (tab_hit.trans (givers_c (rd_sl hs_L (by decide) (whole_row zh rfl) (cfs_len h_L).symm (cfs_free0 h_L)) h_L zc (by rw [ok_givers, decide_eq_true hb]))), ?_⟩
        refine d_step (wA_on rfl rfl (by simp only [Tr.get_set, reduceIte, Nat.reduceEqDiff, Nat.reduceAdd, g15, g16, g18] <;> rfl)) rfl (x_move rfl zt) (by decide) ?_
        refine d_step (wA_on rfl rfl (by simp only [Tr.get_set, reduceIte, Nat.reduceEqDiff, Nat.reduceAdd, g15, g16, g18] <;> rfl)) rfl (x_bin rfl zt zt b_gtr) (by decide) ?_
        refine ds (x_pick rfl (by simp only [Tr.get_set, reduceIte, Nat.reduceEqDiff, Nat.reduceAdd, ev_tmp, g15, g16, g18] <;> rfl) (by simp only [if_true, if_false, Bool.false_eq_true, ev_tmp, Tr.get_set, reduceIte, Nat.reduceEqDiff, Nat.reduceAdd, g15, g16, g18]; rfl)) ?_
        refine d_done ⟨by kernel_rfl, ?_⟩
        refine e_seq ?_
        refine k_cond (by simp only [Tr.get_set, reduceIte, Nat.reduceEqDiff, Nat.reduceAdd, ev_tmp, g15, g16, g18] <;> rfl) (fun g20 => ?_) (fun g20 => ?_)
        ·have p20 := g20; try simp only [d1, d2, d3, d4, d5, d6, d7, d8, d9] at p20
         refine k_seq ?_
         refine k_region hP hC ?_
         refine os (x_move rfl zt) ?_
         refine os (x_move rfl zt) ?_
         refine os (x_move rfl zt) ?_
         refine os (x_indexS hs_L rfl zt zt Try.underlying23 T.s43 (by omega) (by omega)) ?_
         refine os (x_loadA rfl zt T.g43 T.s43 (l_elem (whole_row zh rfl) (by assumption) rfl (by omega) (by omega))) ?_
         refine os (y_bsliceA rfl zt Try.underlying23 T.s43 T.z43 (by decide) rfl rfl (cf_len (ks := T.K43) (by first | rfl | assumption | (apply cf_part; (first | assumption | (exact cf_nth (by assumption) (by omega) (by omega))); rfl) | (exact cf_nth (by assumption) (by omega) (by omega)))) (by decide)) ?_
         refine os (x_append rfl rfl zv rfl rfl zr (cells_row Try.underlying23 T.s43 (l_all (whole_row zh rfl) (by rw [Nat.one_mul]; exact (cf_len (ks := T.K43) zc).symm))) (ya_own Try.underlying23 T.i23 (by decide) (by rw [Nat.one_mul]; exact (cf_len (ks := T.K43) zc)) (by omega) (by unfold BIG; omega) (cf_oneC (ks := T.K43) zc) (by decide) zh rfl (cfs_len hc))) ?_
         refine os (x_assign rfl zt) ?_
         refine o_done ?_
         refine e_seq ?_
         refine k_region hP hC ?_
         refine os (x_assign rfl (by rfl)) ?_
         refine o_done ?_
         refine e_block ?_
         refine e_seq ?_
         refine k_region hP hC ?_
         refine os (x_move rfl zt) ?_
         refine os (x_bin rfl zt (by rfl) b_add) ?_
         refine os (x_assign rfl zt) ?_
         refine o_done ?_
         refine e_loop ?_
         refine ⟨(true, false, IntKind.i64.wrap (k + 1), (acc ++ [nth L k])), (to_mk (L := [0, 3]) (slots := [0, 1, 5, 6, 7, 9]) (w := 1) zr (gcVs_cons zh (gcV_sl hs_L rfl) (gcVs_cons zh (gcV_free rfl) (gcVs_cons zh (gcV_sliceE rfl (by simp)) (gcVs_cons zh (gcV_free rfl) (gcVs_cons zh (gcV_free rfl) (gcVs_cons zh (gcV_free rfl) gcVs_nil)))))) (gcH_cons (gcO_old (by rfl) zh) (gcH_cons (gcO_aliasE (by rfl) zh zh (gcD_free (by rw [List.all_append, cfs_free1 hc]; simp only [Bool.true_and]; exact cf_free1 (ks := T.K43) zc)) (by simp only [List.flatten_append, List.flatten_cons, List.flatten_nil, List.append_nil, List.nil_append])) gcH_nil)) zr), ?_, ?_⟩
         ·rw [wr1 (by omega) (by omega)]; refine ⟨by omega, by omega, ?_, ?_, ?_, ?_⟩
          ·have hh := agI_hit (by omega) h4 (by rw [← h6]; exact (by assumption : f = true).symm) (ag_h3 (by assumption) (by assumption))
           rw [hh.1]; rw [hh.2, List.append_nil] at h2; rw [← h2]
          ·have hh := agI_hit (by omega) h4 (by rw [← h6]; exact (by assumption : f = true).symm) (ag_h3 (by assumption) (by assumption))
           rw [hh.1]; simp
          ·simp
          ·exact cfs_append hc (cfs_one zc)
         ·show (L.length - IntKind.i64.wrap (k + 1)).toNat < (L.length - k).toNat; rw [wr1 (by omega) (by omega)]; omega
        ·have p20 := g20; try simp only [d1, d2, d3, d4, d5, d6, d7, d8, d9] at p20
         refine k_skip ?_
         refine e_block ?_
         refine e_seq ?_
         refine k_region hP hC ?_
         refine os (x_move rfl zt) ?_
         refine os (x_bin rfl zt (by rfl) b_add) ?_
         refine os (x_assign rfl zt) ?_
         refine o_done ?_
         refine e_loop ?_
         refine ⟨(true, f, IntKind.i64.wrap (k + 1), acc), (to_mk (L := [0, 1]) (slots := [0, 1, 5, 6, 7, 9]) (w := 1) zr (gcVs_cons zh (gcV_sl hs_L rfl) (gcVs_cons zh (gcV_free rfl) (gcVs_cons zh (gcV_slice rfl) (gcVs_cons zh (gcV_free rfl) (gcVs_cons zh (gcV_free rfl) (gcVs_cons zh (gcV_free rfl) gcVs_nil)))))) (gcH_cons (gcO_old (by rfl) zh) (gcH_cons (gcO_row (by rfl) zh (gcD_free (cfs_free1 hc))) gcH_nil)) zr), ?_, ?_⟩
         ·rw [wr1 (by omega) (by omega)]; refine ⟨by omega, by omega, ?_, ?_, ?_, ?_⟩
          ·rw [agI_skip (by omega) (by first | exact ag_h1 (by assumption) | exact ag_h2 (by assumption))]; exact h2
          ·rw [agI_skip (by omega) (by first | exact ag_h1 (by assumption) | exact ag_h2 (by assumption))]; exact h6
          ·exact h3
          ·exact hc
         ·show (L.length - IntKind.i64.wrap (k + 1)).toNat < (L.length - k).toNat; rw [wr1 (by omega) (by omega)]; omega
       ·have p18 := g18; try simp only [d1, d2, d3, d4, d5, d6, d7, d8, d9] at p18
        refine d_skip (wA_off rfl rfl (by simp only [Tr.get_set, reduceIte, Nat.reduceEqDiff, Nat.reduceAdd, g15, g16, g18] <;> rfl)) rfl (by decide) ?_
        refine d_skip (wA_off rfl rfl (by simp only [Tr.get_set, reduceIte, Nat.reduceEqDiff, Nat.reduceAdd, g15, g16, g18] <;> rfl)) rfl (by decide) ?_
        refine d_skip (wA_off rfl rfl (by simp only [Tr.get_set, reduceIte, Nat.reduceEqDiff, Nat.reduceAdd, g15, g16, g18] <;> rfl)) rfl (by decide) ?_
        refine d_skip (wA_off rfl rfl (by simp only [Tr.get_set, reduceIte, Nat.reduceEqDiff, Nat.reduceAdd, g15, g16, g18] <;> rfl)) rfl (by decide) ?_
        refine d_skip (wA_off rfl rfl (by simp only [Tr.get_set, reduceIte, Nat.reduceEqDiff, Nat.reduceAdd, g15, g16, g18] <;> rfl)) rfl (by decide) ?_
        refine d_skip (wA_off rfl rfl (by simp only [Tr.get_set, reduceIte, Nat.reduceEqDiff, Nat.reduceAdd, g15, g16, g18] <;> rfl)) rfl (by decide) ?_
        refine d_skip (wA_off rfl rfl (by simp only [Tr.get_set, reduceIte, Nat.reduceEqDiff, Nat.reduceAdd, g15, g16, g18] <;> rfl)) rfl (by decide) ?_
        refine d_skip (wA_off rfl rfl (by simp only [Tr.get_set, reduceIte, Nat.reduceEqDiff, Nat.reduceAdd, g15, g16, g18] <;> rfl)) rfl (by decide) ?_
        refine ds (x_pick rfl (by simp only [Tr.get_set, reduceIte, Nat.reduceEqDiff, Nat.reduceAdd, ev_tmp, g15, g16, g18] <;> rfl) (by simp only [if_true, if_false, Bool.false_eq_true, ev_tmp, Tr.get_set, reduceIte, Nat.reduceEqDiff, Nat.reduceAdd, g15, g16, g18]; rfl)) ?_
        refine d_done ⟨by kernel_rfl, ?_⟩
        refine e_seq ?_
        refine k_condF (by simp only [Tr.get_set, reduceIte, Nat.reduceEqDiff, Nat.reduceAdd, ev_tmp, g15, g16, g18] <;> rfl) ?_
        refine k_skip ?_
        refine e_block ?_
        refine e_seq ?_
        refine k_region hP hC ?_
        refine os (x_move rfl zt) ?_
        refine os (x_bin rfl zt (by rfl) b_add) ?_
        refine os (x_assign rfl zt) ?_
        refine o_done ?_
        refine e_loop ?_
        refine ⟨(true, f, IntKind.i64.wrap (k + 1), acc), (to_mk (L := [0, 1]) (slots := [0, 1, 5, 6, 7, 9]) (w := 1) zr (gcVs_cons zh (gcV_sl hs_L rfl) (gcVs_cons zh (gcV_free rfl) (gcVs_cons zh (gcV_slice rfl) (gcVs_cons zh (gcV_free rfl) (gcVs_cons zh (gcV_free rfl) (gcVs_cons zh (gcV_free rfl) gcVs_nil)))))) (gcH_cons (gcO_old (by rfl) zh) (gcH_cons (gcO_row (by rfl) zh (gcD_free (cfs_free1 hc))) gcH_nil)) zr), ?_, ?_⟩
        ·rw [wr1 (by omega) (by omega)]; refine ⟨by omega, by omega, ?_, ?_, ?_, ?_⟩
         ·rw [agI_skip (by omega) (by first | exact ag_h1 (by assumption) | exact ag_h2 (by assumption))]; exact h2
         ·rw [agI_skip (by omega) (by first | exact ag_h1 (by assumption) | exact ag_h2 (by assumption))]; exact h6
         ·exact h3
         ·exact hc
        ·show (L.length - IntKind.i64.wrap (k + 1)).toNat < (L.length - k).toNat; rw [wr1 (by omega) (by omega)]; omega
      ·have p16 := g16; try simp only [d1, d2, d3, d4, d5, d6, d7, d8, d9] at p16
       refine k_exit ?_
       refine e_seq_exit ?_
       refine e_loop_exit ?_
       refine e_block_eq ?_
       refine e_block ?_
       refine e_seq ?_
       refine k_region hP hC ?_
       refine os (x_move rfl zt) ?_
       refine os (x_bin rfl zt (by rfl) b_add) ?_
       refine os (x_assign rfl zt) ?_
       refine o_done ?_
       refine e_loop ?_
       refine ⟨(true, IntKind.i64.wrap (i + 1), acc), (to_mk (L := [0, 1]) (slots := [0, 1, 5, 6]) (w := 1) zr (gcVs_cons zh (gcV_sl hs_L rfl) (gcVs_cons zh (gcV_free rfl) (gcVs_cons zh (gcV_slice rfl) (gcVs_cons zh (gcV_free rfl) gcVs_nil)))) (gcH_cons (gcO_old (by rfl) zh) (gcH_cons (gcO_row (by rfl) zh (gcD_free (cfs_free1 hc))) gcH_nil)) zr), ?_, ?_⟩
       ·rw [wr1 (by omega) (by omega)]; refine ⟨by omega, by omega, ?_, h3, hc⟩
        rw [agO_next h0]
        have hfin : agI L F i L.length = agI L F i k := by
         first | rw [← (show k = (L.length : Int) by omega)] | exact agI_fin (by omega) (by omega) (by rw [← h6]; exact (by assumption : f = false).symm)
        rw [hfin]; exact h2
       ·show (L.length - IntKind.i64.wrap (i + 1)).toNat < (L.length - i).toNat; rw [wr1 (by omega) (by omega)]; omega
     ·have p15 := g15; try simp only [d1, d2, d3, d4, d5, d6, d7, d8, d9] at p15
      refine o_skip (wA_off rfl rfl (by simp only [Tr.get_set, reduceIte, Nat.reduceEqDiff, Nat.reduceAdd, g15] <;> rfl)) rfl (by decide) ?_
      refine os (x_pick rfl (by simp only [Tr.get_set, reduceIte, Nat.reduceEqDiff, Nat.reduceAdd, ev_tmp, g15] <;> rfl) (by simp only [if_true, if_false, Bool.false_eq_true, ev_tmp, Tr.get_set, reduceIte, Nat.reduceEqDiff, Nat.reduceAdd, g15]; rfl)) ?_
      refine o_done ?_
      refine e_seq ?_
      refine k_condF (by simp only [Tr.get_set, reduceIte, Nat.reduceEqDiff, Nat.reduceAdd, ev_tmp, g15] <;> rfl) ?_
      refine k_exit ?_
      refine e_seq_exit ?_
      refine e_loop_exit ?_
      refine e_block_eq ?_
      refine e_block ?_
      refine e_seq ?_
      refine k_region hP hC ?_
      refine os (x_move rfl zt) ?_
      refine os (x_bin rfl zt (by rfl) b_add) ?_
      refine os (x_assign rfl zt) ?_
      refine o_done ?_
      refine e_loop ?_
      refine ⟨(true, IntKind.i64.wrap (i + 1), acc), (to_mk (L := [0, 1]) (slots := [0, 1, 5, 6]) (w := 1) zr (gcVs_cons zh (gcV_sl hs_L rfl) (gcVs_cons zh (gcV_free rfl) (gcVs_cons zh (gcV_slice rfl) (gcVs_cons zh (gcV_free rfl) gcVs_nil)))) (gcH_cons (gcO_old (by rfl) zh) (gcH_cons (gcO_row (by rfl) zh (gcD_free (cfs_free1 hc))) gcH_nil)) zr), ?_, ?_⟩
      ·rw [wr1 (by omega) (by omega)]; refine ⟨by omega, by omega, ?_, h3, hc⟩
       rw [agO_next h0]
       have hfin : agI L F i L.length = agI L F i k := by
        first | rw [← (show k = (L.length : Int) by omega)] | exact agI_fin (by omega) (by omega) (by rw [← h6]; exact (by assumption : f = false).symm)
       rw [hfin]; exact h2
      ·show (L.length - IntKind.i64.wrap (i + 1)).toNat < (L.length - i).toNat; rw [wr1 (by omega) (by omega)]; omega
  ·have p2 := g2; try simp only [d1, d2, d3, d4, d5, d6, d7, d8, d9] at p2
   refine k_exit ?_
   refine e_seq_exit ?_
   refine e_loop_exit ?_
   refine e_block_eq ?_
   refine e_seq ?_
   refine k_seq ?_
   refine k_region hP hC ?_
   refine os (x_move rfl zt) ?_
   refine os (x_assign rfl zt) ?_
   refine o_done ?_
   refine e_seq ?_
   refine k_ret ?_
   have hi : i = L.length := by omega
   rw [hi] at h2
   have h2 : acc = agreedL L F := h2
   rw [hacc] at h2
   unfold val_agreed33 new_agreed33
   rw [← h2]
   refine gives_mk (L := [0]) (slots := [4]) (w := 1) (.inr rfl) zr (gcVs_cons zh (gcV_free rfl) gcVs_nil) (gcH_cons (gcO_old (by rfl) zh) gcH_nil) zr (by simp only [Try.results17, resA, cst, mkE, Tr.get_set, reduceIte, Nat.reduceEqDiff, Nat.reduceAdd] <;> rfl) ?_
   rfl
 ·skip
  have hal : acc.length ≤ 1001 := by rw [h2]; exact Nat.le_trans agO_len (by omega)
  refine k_cst zm zo zl ?_
  refine k_seq ?_
  refine k_seq ?_
  refine k_region hP hC ?_
  refine os (x_move rfl zt) ?_
  refine os (x_move rfl zt) ?_
  refine os (x_lenS hs_L rfl rfl zv rfl Try.underlying23) ?_
  refine os (x_bin rfl zt zt b_lss) ?_
  refine o_done ?_
  refine e_seq ?_
  refine k_cond zt (fun g22 => ?_) (fun g22 => ?_)
  ·have p22 := g22; try simp only [d1, d2, d3, d4, d5, d6, d7, d8, d9] at p22
   refine k_skip ?_
   refine e_seq ?_
   refine k_seq ?_
   refine k_block ?_
   refine k_seq ?_
   refine k_region hP hC ?_
   refine os (x_assign rfl (by rfl)) ?_
   refine o_done ?_
   refine e_seq ?_
   refine k_seq ?_
   refine k_seq ?_
   refine k_region hP hC ?_
   refine os (x_assign rfl (by rfl)) ?_
   refine o_done ?_
   refine e_seq ?_
   refine k_block ?_
   refine k_loop (α := Bool × Int) (fun z => match z with | (f, k) => cst 74 [0, 1, 5, 6, 7, 8] [s_L, .int .i64 F, .slice (some ⟨1, 0, none⟩) acc.length (acc.length + 46), .int .i64 i, .bool f, .int .i64 k] [.row L.flatten 0 BIG true L.flatten.length, .row acc.flatten 1 BIG false acc.flatten.length] 1) (fun z => match z with | (f, k) => 0 ≤ k ∧ k ≤ i ∧ f = agFirst L i k) (fun z => match z with | (_, k) => (i - k).toNat) (true, 0) (to_mk (L := [0, 1]) (slots := [0, 1, 5, 6, 7, 8]) (w := 1) zr (gcVs_cons zh (gcV_sl hs_L rfl) (gcVs_cons zh (gcV_free rfl) (gcVs_cons zh (gcV_slice rfl) (gcVs_cons zh (gcV_free rfl) (gcVs_cons zh (gcV_free rfl) (gcVs_cons zh (gcV_free rfl) gcVs_nil)))))) (gcH_cons (gcO_old (by rfl) zh) (gcH_cons (gcO_row (by rfl) zh (gcD_free (cfs_free1 hc))) gcH_nil)) zr) ⟨by omega, by omega, rfl⟩ ?_
   rintro ⟨f, k⟩ ⟨h4, h5, h6⟩
   refine k_cst zm zo zl ?_
   refine k_seq ?_
   refine k_seq ?_
   refine k_region hP hC ?_
   refine os (x_move rfl zt) ?_
   refine os (x_move rfl zt) ?_
   refine os (x_bin rfl zt zt b_lss) ?_
   refine o_done ?_
   refine e_seq ?_
   refine k_cond zt (fun g24 => ?_) (fun g24 => ?_)
   ·have p24 := g24; try simp only [d1, d2, d3, d4, d5, d6, d7, d8, d9] at p24
    refine k_skip ?_
    refine e_seq ?_
    refine k_seq ?_
    refine k_block ?_
    refine k_draw hP hC zr ?_
    refine ds (x_move rfl zt) ?_
    refine ds (x_move rfl zt) ?_
    refine d_guard rfl rfl zh (fun g25 => ?_) (fun g25 => ?_)
    ·have p25 := g25; try simp only [d1, d2, d3, d4, d5, d6, d7, d8, d9] at p25
     refine d_step (wA_on rfl rfl (by simp only [Tr.get_set, reduceIte, Nat.reduceEqDiff, Nat.reduceAdd, g24, g25] <;> rfl)) rfl (x_move rfl zt) (by decide) ?_
     refine d_step (wA_on rfl rfl (by simp only [Tr.get_set, reduceIte, Nat.reduceEqDiff, Nat.reduceAdd, g24, g25] <;> rfl)) rfl (x_move rfl zt) (by decide) ?_
     refine d_step (wA_on rfl rfl (by simp only [Tr.get_set, reduceIte, Nat.reduceEqDiff, Nat.reduceAdd, g24, g25] <;> rfl)) rfl (x_indexS hs_L rfl zt zt Try.underlying23 T.s43 (by omega) (by omega)) (by decide) ?_
     refine d_step (wA_on rfl rfl (by simp only [Tr.get_set, reduceIte, Nat.reduceEqDiff, Nat.reduceAdd, g24, g25] <;> rfl)) rfl (x_fieldK (a := 2) rfl zt Try.underlying43 rfl T.s37 rfl) (by decide) ?_
     refine d_step (wA_on rfl rfl (by simp only [Tr.get_set, reduceIte, Nat.reduceEqDiff, Nat.reduceAdd, g24, g25] <;> rfl)) rfl (x_loadA rfl zt T.g37 T.s37 (l_part (a := 2) (K := 46) (whole_row zh rfl) (by assumption) rfl (by omega) (by omega) (by decide))) (by decide) ?_
     refine d_step (wA_on rfl rfl (by simp only [Tr.get_set, reduceIte, Nat.reduceEqDiff, Nat.reduceAdd, g24, g25] <;> rfl)) rfl (x_move rfl zt) (by decide) ?_
     refine d_step (wA_on rfl rfl (by simp only [Tr.get_set, reduceIte, Nat.reduceEqDiff, Nat.reduceAdd, g24, g25] <;> rfl)) rfl (x_move rfl zt) (by decide) ?_
     refine d_step (wA_on rfl rfl (by simp only [Tr.get_set, reduceIte, Nat.reduceEqDiff, Nat.reduceAdd, g24, g25] <;> rfl)) rfl (x_indexS hs_L rfl zt zt Try.underlying23 T.s43 (by omega) (by omega)) (by decide) ?_
     refine d_step (wA_on rfl rfl (by simp only [Tr.get_set, reduceIte, Nat.reduceEqDiff, Nat.reduceAdd, g24, g25] <;> rfl)) rfl (x_fieldK (a := 2) rfl zt Try.underlying43 rfl T.s37 rfl) (by decide) ?_
     refine d_step (wA_on rfl rfl (by simp only [Tr.get_set, reduceIte, Nat.reduceEqDiff, Nat.reduceAdd, g24, g25] <;> rfl)) rfl (x_loadA rfl zt T.g37 T.s37 (l_part (a := 2) (K := 46) (whole_row zh rfl) (by assumption) rfl (by omega) (by omega) (by decide))) (by decide) ?_
     refine d_step (wA_on rfl rfl (by simp only [Tr.get_set, reduceIte, Nat.reduceEqDiff, Nat.reduceAdd, g24, g25] <;> rfl)) rfl (x_bin rfl zt zt (b_neqA (by decide) T.f37 T.g37 T.q37 zc zc)) (by decide) ?_
     refine ds (x_pick rfl (by simp only [Tr.get_set, reduceIte, Nat.reduceEqDiff, Nat.reduceAdd, ev_tmp, g24, g25] <;> rfl) (by simp only [if_true, if_false, Bool.false_eq_true, ev_tmp, Tr.get_set, reduceIte, Nat.reduceEqDiff, Nat.reduceAdd, g24, g25]; rfl)) ?_
     refine ds (x_assign rfl zt) ?_
     refine d_done ⟨by kernel_rfl, ?_⟩
     refine e_block ?_
     refine e_seq ?_
     refine k_region hP hC ?_
     refine os (x_move rfl zt) ?_
     refine os (x_bin rfl zt (by rfl) b_add) ?_
     refine os (x_assign rfl zt) ?_
     refine o_done ?_
     refine e_loop ?_
     refine ⟨((!eqCs (askC (nth L k)) (askC (nth L i))), IntKind.i64.wrap (k + 1)), (to_mk (L := [0, 1]) (slots := [0, 1, 5, 6, 7, 8]) (w := 1) zr (gcVs_cons zh (gcV_sl hs_L rfl) (gcVs_cons zh (gcV_free rfl) (gcVs_cons zh (gcV_slice rfl) (gcVs_cons zh (gcV_free rfl) (gcVs_cons zh (gcV_free rfl) (gcVs_cons zh (gcV_free rfl) gcVs_nil)))))) (gcH_cons (gcO_old (by rfl) zh) (gcH_cons (gcO_row (by rfl) zh (gcD_free (cfs_free1 hc))) gcH_nil)) zr), ?_, ?_⟩
     ·rw [wr1 (by omega) (by omega)]; refine ⟨by omega, by omega, ?_⟩
      rw [agFirst_next h4, ← h6]; first | (rw [(by assumption : f = true)]; rfl) | (rw [(by assumption : f = false)]; rfl)
     ·show (i - IntKind.i64.wrap (k + 1)).toNat < (i - k).toNat; rw [wr1 (by omega) (by omega)]; omega
    ·have p25 := g25; try simp only [d1, d2, d3, d4, d5, d6, d7, d8, d9] at p25
     refine d_skip (wA_off rfl rfl (by simp only [Tr.get_set, reduceIte, Nat.reduceEqDiff, Nat.reduceAdd, g24, g25] <;> rfl)) rfl (by decide) ?_
     refine d_skip (wA_off rfl rfl (by simp only [Tr.get_set, reduceIte, Nat.reduceEqDiff, Nat.reduceAdd, g24, g25] <;> rfl)) rfl (by decide) ?_
     refine d_skip (wA_off rfl rfl (by simp only [Tr.get_set, reduceIte, Nat.reduceEqDiff, Nat.reduceAdd, g24, g25] <;> rfl)) rfl (by decide) ?_
     refine d_skip (wA_off rfl rfl (by simp only [Tr.get_set, reduceIte, Nat.reduceEqDiff, Nat.reduceAdd, g24, g25] <;> rfl)) rfl (by decide) ?_
     refine d_skip (wA_off rfl rfl (by simp only [Tr.get_set, reduceIte, Nat.reduceEqDiff, Nat.reduceAdd, g24, g25] <;> rfl)) rfl (by decide) ?_
     refine d_skip (wA_off rfl rfl (by simp only [Tr.get_set, reduceIte, Nat.reduceEqDiff, Nat.reduceAdd, g24, g25] <;> rfl)) rfl (by decide) ?_
     refine d_skip (wA_off rfl rfl (by simp only [Tr.get_set, reduceIte, Nat.reduceEqDiff, Nat.reduceAdd, g24, g25] <;> rfl)) rfl (by decide) ?_
     refine d_skip (wA_off rfl rfl (by simp only [Tr.get_set, reduceIte, Nat.reduceEqDiff, Nat.reduceAdd, g24, g25] <;> rfl)) rfl (by decide) ?_
     refine d_skip (wA_off rfl rfl (by simp only [Tr.get_set, reduceIte, Nat.reduceEqDiff, Nat.reduceAdd, g24, g25] <;> rfl)) rfl (by decide) ?_
     refine d_skip (wA_off rfl rfl (by simp only [Tr.get_set, reduceIte, Nat.reduceEqDiff, Nat.reduceAdd, g24, g25] <;> rfl)) rfl (by decide) ?_
     refine d_skip (wA_off rfl rfl (by simp only [Tr.get_set, reduceIte, Nat.reduceEqDiff, Nat.reduceAdd, g24, g25] <;> rfl)) rfl (by decide) ?_
     refine ds (x_pick rfl (by simp only [Tr.get_set, reduceIte, Nat.reduceEqDiff, Nat.reduceAdd, ev_tmp, g24, g25] <;> rfl) (by simp only [if_true, if_false, Bool.false_eq_true, ev_tmp, Tr.get_set, reduceIte, Nat.reduceEqDiff, Nat.reduceAdd, g24, g25]; rfl)) ?_
     refine ds (x_assign rfl zt) ?_
     refine d_done ⟨by kernel_rfl, ?_⟩
     refine e_block ?_
     refine e_seq ?_
     refine k_region hP hC ?_
     refine os (x_move rfl zt) ?_
     refine os (x_bin rfl zt (by rfl) b_add) ?_
     refine os (x_assign rfl zt) ?_
     refine o_done ?_
     refine e_loop ?_
     refine ⟨(false, IntKind.i64.wrap (k + 1)), (to_mk (L := [0, 1]) (slots := [0, 1, 5, 6, 7, 8]) (w := 1) zr (gcVs_cons zh (gcV_sl hs_L rfl) (gcVs_cons zh (gcV_free rfl) (gcVs_cons zh (gcV_slice rfl) (gcVs_cons zh (gcV_free rfl) (gcVs_cons zh (gcV_free rfl) (gcVs_cons zh (gcV_free rfl) gcVs_nil)))))) (gcH_cons (gcO_old (by rfl) zh) (gcH_cons (gcO_row (by rfl) zh (gcD_free (cfs_free1 hc))) gcH_nil)) zr), ?_, ?_⟩
     ·rw [wr1 (by omega) (by omega)]; refine ⟨by omega, by omega, ?_⟩
      rw [agFirst_next h4, ← h6]; first | (rw [(by assumption : f = true)]; rfl) | (rw [(by assumption : f = false)]; rfl)
     ·show (i - IntKind.i64.wrap (k + 1)).toNat < (i - k).toNat; rw [wr1 (by omega) (by omega)]; omega
   ·have p24 := g24; try simp only [d1, d2, d3, d4, d5, d6, d7, d8, d9] at p24
    refine k_exit ?_
    refine e_seq_exit ?_
    refine e_loop_exit ?_
    refine e_block_eq ?_
    refine e_seq ?_
    refine k_seq ?_
    refine k_region hP hC ?_
    refine os (x_move rfl zt) ?_
    refine os (x_assign rfl zt) ?_
    refine o_done ?_
    refine e_seq ?_
    refine k_block ?_
    have hki : k = i := by omega
    rw [hki] at h6
    refine k_loop (α := Bool × Bool × Int × List (List Value)) (fun z => match z with | (false, f, k, acc) => cst 74 [0, 1, 5, 6, 7, 9] [s_L, .int .i64 F, .slice none 0 0, .int .i64 i, .bool f, .int .i64 k] [.row L.flatten 0 BIG true L.flatten.length] 1 | (true, f, k, acc) => cst 74 [0, 1, 5, 6, 7, 9] [s_L, .int .i64 F, .slice (some ⟨1, 0, none⟩) acc.length (acc.length + 46), .int .i64 i, .bool f, .int .i64 k] [.row L.flatten 0 BIG true L.flatten.length, .row acc.flatten 1 BIG false acc.flatten.length] 1) (fun z => match z with | (b, f, k, acc) => i ≤ k ∧ k ≤ L.length ∧ acc = agO L F i ++ agI L F i k ∧ f = (agFirst L i i && (agI L F i k).isEmpty) ∧ acc.isEmpty = !b ∧ cfs T.K43 acc) (fun z => match z with | (_, _, k, _) => (L.length - k).toNat) (true, f, i, acc) (to_mk (L := [0, 1]) (slots := [0, 1, 5, 6, 7, 9]) (w := 1) zr (gcVs_cons zh (gcV_sl hs_L rfl) (gcVs_cons zh (gcV_free rfl) (gcVs_cons zh (gcV_slice rfl) (gcVs_cons zh (gcV_free rfl) (gcVs_cons zh (gcV_free rfl) (gcVs_cons zh (gcV_free rfl) gcVs_nil)))))) (gcH_cons (gcO_old (by rfl) zh) (gcH_cons (gcO_row (by rfl) zh (gcD_free (cfs_free1 hc))) gcH_nil)) zr) ⟨by omega, by omega, by rw [agI_start h0, List.append_nil]; exact h2, by rw [agI_start h0, h6]; simp, h3, hc⟩ ?_
    clear h2 h3 hc h6 h5 h4 hki hal
    rintro ⟨_ | _, f, k, acc⟩ ⟨h4, h5, h2, h6, h3, hc⟩
    ·skip
     have hacc : acc = [] := List.isEmpty_iff.1 h3
     refine k_cst zm zo zl ?_
     refine k_seq ?_
     refine k_seq ?_
     refine k_region hP hC ?_
     refine os (x_move rfl zt) ?_
     refine os (x_move rfl zt) ?_
     refine os (x_lenS hs_L rfl rfl zv rfl Try.underlying23) ?_
     refine os (x_bin rfl zt zt b_lss) ?_
     refine os (x_move rfl zt) ?_
     refine o_guard rfl rfl zh (fun g28 => ?_) (fun g28 => ?_)
     ·have p28 := g28; try simp only [d1, d2, d3, d4, d5, d6, d7, d8, d9] at p28
      refine o_step (wA_on rfl rfl (by simp only [Tr.get_set, reduceIte, Nat.reduceEqDiff, Nat.reduceAdd, g28] <;> rfl)) rfl (x_move rfl zt) (by decide) ?_
      refine os (x_pick rfl (by simp only [Tr.get_set, reduceIte, Nat.reduceEqDiff, Nat.reduceAdd, ev_tmp, g28] <;> rfl) (by simp only [if_true, if_false, Bool.false_eq_true, ev_tmp, Tr.get_set, reduceIte, Nat.reduceEqDiff, Nat.reduceAdd, g28]; rfl)) ?_
      refine o_done ?_
      refine e_seq ?_
      refine k_cond (by simp only [Tr.get_set, reduceIte, Nat.reduceEqDiff, Nat.reduceAdd, ev_tmp, g28] <;> rfl) (fun g29 => ?_) (fun g29 => ?_)
      ·have p29 := g29; try simp only [d1, d2, d3, d4, d5, d6, d7, d8, d9] at p29
       refine k_skip ?_
       refine e_seq ?_
       refine k_seq ?_
       refine k_block ?_
       refine k_seq ?_
       refine k_draw hP hC zr ?_
       refine ds (x_move rfl zt) ?_
       refine ds (x_move rfl zt) ?_
       refine ds (x_indexS hs_L rfl zt zt Try.underlying23 T.s43 (by omega) (by omega)) ?_
       refine ds (x_fieldK (a := 2) rfl zt Try.underlying43 rfl T.s37 rfl) ?_
       refine ds (x_loadA rfl zt T.g37 T.s37 (l_part (a := 2) (K := 46) (whole_row zh rfl) (by assumption) rfl (by omega) (by omega) (by decide))) ?_
       refine ds (x_move rfl zt) ?_
       refine ds (x_move rfl zt) ?_
       refine ds (x_indexS hs_L rfl zt zt Try.underlying23 T.s43 (by omega) (by omega)) ?_
       refine ds (x_fieldK (a := 2) rfl zt Try.underlying43 rfl T.s37 rfl) ?_
       refine ds (x_loadA rfl zt T.g37 T.s37 (l_part (a := 2) (K := 46) (whole_row zh rfl) (by assumption) rfl (by omega) (by omega) (by decide))) ?_
       refine ds (x_bin rfl zt zt (b_eqlA (by decide) T.f37 T.g37 T.q37 zc zc)) ?_
       refine ds (x_move rfl zt) ?_
       refine d_guard rfl rfl zh (fun g31 => ?_) (fun g31 => ?_)
       ·have p31 := g31; try simp only [d1, d2, d3, d4, d5, d6, d7, d8, d9] at p31
        refine d_step (wA_on rfl rfl (by simp only [Tr.get_set, reduceIte, Nat.reduceEqDiff, Nat.reduceAdd, g28, g29, g31] <;> rfl)) rfl (x_move rfl zt) (by decide) ?_
        refine d_step (wA_on rfl rfl (by simp only [Tr.get_set, reduceIte, Nat.reduceEqDiff, Nat.reduceAdd, g28, g29, g31] <;> rfl)) rfl (x_move rfl zt) (by decide) ?_
        refine d_step (wA_on rfl rfl (by simp only [Tr.get_set, reduceIte, Nat.reduceEqDiff, Nat.reduceAdd, g28, g29, g31] <;> rfl)) rfl (x_move rfl zt) (by decide) ?_
        refine d_step (wA_on rfl rfl (by simp only [Tr.get_set, reduceIte, Nat.reduceEqDiff, Nat.reduceAdd, g28, g29, g31] <;> rfl)) rfl (x_indexS hs_L rfl zt zt Try.underlying23 T.s43 (by omega) (by omega)) (by decide) ?_
        refine d_step (wA_on rfl rfl (by simp only [Tr.get_set, reduceIte, Nat.reduceEqDiff, Nat.reduceAdd, g28, g29, g31] <;> rfl)) rfl (x_loadA rfl zt T.g43 T.s43 (l_elem (whole_row zh rfl) (by assumption) rfl (by omega) (by omega))) (by decide) ?_
        refine d_call0 (wA_on rfl rfl (by simp only [Tr.get_set, reduceIte, Nat.reduceEqDiff, Nat.reduceAdd, g28, g29, g31] <;> rfl)) rfl rfl rfl zv (by decide) ?_
        refine ⟨_, _, _, _, (tab_hit.trans (givers_c (rd_sl hs_L (by decide) (whole_row zh rfl) (cfs_len h_L).symm (cfs_free0 h_L)) h_L zc (by rw [ok_givers, decide_eq_true hb]))), ?_⟩
        refine d_step (wA_on rfl rfl (by simp only [Tr.get_set, reduceIte, Nat.reduceEqDiff, Nat.reduceAdd, g28, g29, g31] <;> rfl)) rfl (x_move rfl zt) (by decide) ?_
        refine d_step (wA_on rfl rfl (by simp only [Tr.get_set, reduceIte, Nat.reduceEqDiff, Nat.reduceAdd, g28, g29, g31] <;> rfl)) rfl (x_bin rfl zt zt b_gtr) (by decide) ?_
        refine ds (x_pick rfl (by simp only [Tr.get_set, reduceIte, Nat.reduceEqDiff, Nat.reduceAdd, ev_tmp, g28, g29, g31] <;> rfl) (by simp only [if_true, if_false, Bool.false_eq_true, ev_tmp, Tr.get_set, reduceIte, Nat.reduceEqDiff, Nat.reduceAdd, g28, g29, g31]; rfl)) ?_
        refine d_done ⟨by kernel_rfl, ?_⟩
        refine e_seq ?_
        refine k_cond (by simp only [Tr.get_set, reduceIte, Nat.reduceEqDiff, Nat.reduceAdd, ev_tmp, g28, g29, g31] <;> rfl) (fun g33 => ?_) (fun g33 => ?_)
        ·have p33 := g33; try simp only [d1, d2, d3, d4, d5, d6, d7, d8, d9] at p33
         refine k_seq ?_
         refine k_region hP hC ?_
         refine os (x_move rfl zt) ?_
         refine os (x_move rfl zt) ?_
         refine os (x_move rfl zt) ?_
         refine os (x_indexS hs_L rfl zt zt Try.underlying23 T.s43 (by omega) (by omega)) ?_
         refine os (x_loadA rfl zt T.g43 T.s43 (l_elem (whole_row zh rfl) (by assumption) rfl (by omega) (by omega))) ?_
         refine os (y_bsliceA rfl zt Try.underlying23 T.s43 T.z43 (by decide) rfl rfl (cf_len (ks := T.K43) (by first | rfl | assumption | (apply cf_part; (first | assumption | (exact cf_nth (by assumption) (by omega) (by omega))); rfl) | (exact cf_nth (by assumption) (by omega) (by omega)))) (by decide)) ?_
         refine os (x_append rfl rfl zv rfl rfl zr (cells_row Try.underlying23 T.s43 (l_all (whole_row zh rfl) (by rw [Nat.one_mul]; exact (cf_len (ks := T.K43) zc).symm))) (ya_nil Try.underlying23 T.i23 (by decide) (by rw [Nat.one_mul]; exact (cf_len (ks := T.K43) zc)) (by decide) (by decide) (cf_oneC (ks := T.K43) zc) (by decide))) ?_
         refine os (x_assign rfl zt) ?_
         refine o_done ?_
         refine e_seq ?_
         refine k_region hP hC ?_
         refine os (x_assign rfl (by rfl)) ?_
         refine o_done ?_
         refine e_block ?_
         refine e_seq ?_
         refine k_region hP hC ?_
         refine os (x_move rfl zt) ?_
         refine os (x_bin rfl zt (by rfl) b_add) ?_
         refine os (x_assign rfl zt) ?_
         refine o_done ?_
         refine e_loop ?_
         refine ⟨(true, false, IntKind.i64.wrap (k + 1), [nth L k]), (to_mk (L := [0, 2]) (slots := [0, 1, 5, 6, 7, 9]) (w := 1) zr (gcVs_cons zh (gcV_sl hs_L rfl) (gcVs_cons zh (gcV_free rfl) (gcVs_cons zh (gcV_slice rfl) (gcVs_cons zh (gcV_free rfl) (gcVs_cons zh (gcV_free rfl) (gcVs_cons zh (gcV_free rfl) gcVs_nil)))))) (gcH_cons (gcO_old (by rfl) zh) (gcH_cons (gcO_rowE (by rfl) zh (gcD_free (cf_free1 (ks := T.K43) zc)) (by simp only [List.flatten_append, List.flatten_cons, List.flatten_nil, List.append_nil, List.nil_append])) gcH_nil)) zr), ?_, ?_⟩
         ·rw [wr1 (by omega) (by omega)]; refine ⟨by omega, by omega, ?_, ?_, ?_, ?_⟩
          ·have hh := agI_hit (by omega) h4 (by rw [← h6]; exact (by assumption : f = true).symm) (ag_h3 (by assumption) (by assumption))
           rw [hh.1]; rw [hh.2, List.append_nil] at h2; rw [← h2]; rw [hacc]; rfl
          ·have hh := agI_hit (by omega) h4 (by rw [← h6]; exact (by assumption : f = true).symm) (ag_h3 (by assumption) (by assumption))
           rw [hh.1]; simp
          ·rfl
          ·exact cfs_one zc
         ·show (L.length - IntKind.i64.wrap (k + 1)).toNat < (L.length - k).toNat; rw [wr1 (by omega) (by omega)]; omega
        ·have p33 := g33; try simp only [d1, d2, d3, d4, d5, d6, d7, d8, d9] at p33
         refine k_skip ?_
         refine e_block ?_
         refine e_seq ?_
         refine k_region hP hC ?_
         refine os (x_move rfl zt) ?_
         refine os (x_bin rfl zt (by rfl) b_add) ?_
         refine os (x_assign rfl zt) ?_
         refine o_done ?_
         refine e_loop ?_
         refine ⟨(false, f, IntKind.i64.wrap (k + 1), acc), (to_mk (L := [0]) (slots := [0, 1, 5, 6, 7, 9]) (w := 1) zr (gcVs_cons zh (gcV_sl hs_L rfl) (gcVs_cons zh (gcV_free rfl) (gcVs_cons zh (gcV_free rfl) (gcVs_cons zh (gcV_free rfl) (gcVs_cons zh (gcV_free rfl) (gcVs_cons zh (gcV_free rfl) gcVs_nil)))))) (gcH_cons (gcO_old (by rfl) zh) gcH_nil) zr), ?_, ?_⟩
         ·rw [wr1 (by omega) (by omega)]; refine ⟨by omega, by omega, ?_, ?_, ?_, ?_⟩
          ·rw [agI_skip (by omega) (by first | exact ag_h1 (by assumption) | exact ag_h2 (by assumption))]; exact h2
          ·rw [agI_skip (by omega) (by first | exact ag_h1 (by assumption) | exact ag_h2 (by assumption))]; exact h6
          ·exact h3
          ·exact hc
         ·show (L.length - IntKind.i64.wrap (k + 1)).toNat < (L.length - k).toNat; rw [wr1 (by omega) (by omega)]; omega
       ·have p31 := g31; try simp only [d1, d2, d3, d4, d5, d6, d7, d8, d9] at p31
        refine d_skip (wA_off rfl rfl (by simp only [Tr.get_set, reduceIte, Nat.reduceEqDiff, Nat.reduceAdd, g28, g29, g31] <;> rfl)) rfl (by decide) ?_
        refine d_skip (wA_off rfl rfl (by simp only [Tr.get_set, reduceIte, Nat.reduceEqDiff, Nat.reduceAdd, g28, g29, g31] <;> rfl)) rfl (by decide) ?_
        refine d_skip (wA_off rfl rfl (by simp only [Tr.get_set, reduceIte, Nat.reduceEqDiff, Nat.reduceAdd, g28, g29, g31] <;> rfl)) rfl (by decide) ?_
        refine d_skip (wA_off rfl rfl (by simp only [Tr.get_set, reduceIte, Nat.reduceEqDiff, Nat.reduceAdd, g28, g29, g31] <;> rfl)) rfl (by decide) ?_
        refine d_skip (wA_off rfl rfl (by simp only [Tr.get_set, reduceIte, Nat.reduceEqDiff, Nat.reduceAdd, g28, g29, g31] <;> rfl)) rfl (by decide) ?_
        refine d_skip (wA_off rfl rfl (by simp only [Tr.get_set, reduceIte, Nat.reduceEqDiff, Nat.reduceAdd, g28, g29, g31] <;> rfl)) rfl (by decide) ?_
        refine d_skip (wA_off rfl rfl (by simp only [Tr.get_set, reduceIte, Nat.reduceEqDiff, Nat.reduceAdd, g28, g29, g31] <;> rfl)) rfl (by decide) ?_
        refine d_skip (wA_off rfl rfl (by simp only [Tr.get_set, reduceIte, Nat.reduceEqDiff, Nat.reduceAdd, g28, g29, g31] <;> rfl)) rfl (by decide) ?_
        refine ds (x_pick rfl (by simp only [Tr.get_set, reduceIte, Nat.reduceEqDiff, Nat.reduceAdd, ev_tmp, g28, g29, g31] <;> rfl) (by simp only [if_true, if_false, Bool.false_eq_true, ev_tmp, Tr.get_set, reduceIte, Nat.reduceEqDiff, Nat.reduceAdd, g28, g29, g31]; rfl)) ?_
        refine d_done ⟨by kernel_rfl, ?_⟩
        refine e_seq ?_
        refine k_condF (by simp only [Tr.get_set, reduceIte, Nat.reduceEqDiff, Nat.reduceAdd, ev_tmp, g28, g29, g31] <;> rfl) ?_
        refine k_skip ?_
        refine e_block ?_
        refine e_seq ?_
        refine k_region hP hC ?_
        refine os (x_move rfl zt) ?_
        refine os (x_bin rfl zt (by rfl) b_add) ?_
        refine os (x_assign rfl zt) ?_
        refine o_done ?_
        refine e_loop ?_
        refine ⟨(false, f, IntKind.i64.wrap (k + 1), acc), (to_mk (L := [0]) (slots := [0, 1, 5, 6, 7, 9]) (w := 1) zr (gcVs_cons zh (gcV_sl hs_L rfl) (gcVs_cons zh (gcV_free rfl) (gcVs_cons zh (gcV_free rfl) (gcVs_cons zh (gcV_free rfl) (gcVs_cons zh (gcV_free rfl) (gcVs_cons zh (gcV_free rfl) gcVs_nil)))))) (gcH_cons (gcO_old (by rfl) zh) gcH_nil) zr), ?_, ?_⟩
        ·rw [wr1 (by omega) (by omega)]; refine ⟨by omega, by omega, ?_, ?_, ?_, ?_⟩
         ·rw [agI_skip (by omega) (by first | exact ag_h1 (by assumption) | exact ag_h2 (by assumption))]; exact h2
         ·rw [agI_skip (by omega) (by first | exact ag_h1 (by assumption) | exact ag_h2 (by assumption))]; exact h6
         ·exact h3
         ·exact hc
        ·show (L.length - IntKind.i64.wrap (k + 1)).toNat < (L.length - k).toNat; rw [wr1 (by omega) (by omega)]; omega
      ·have p29 := g29; try simp only [d1, d2, d3, d4, d5, d6, d7, d8, d9] at p29
       refine k_exit ?_
       refine e_seq_exit ?_
       refine e_loop_exit ?_
       refine e_block_eq ?_
       refine e_block ?_
       refine e_seq ?_
       refine k_region hP hC ?_
       refine os (x_move rfl zt) ?_
       refine os (x_bin rfl zt (by rfl) b_add) ?_
       refine os (x_assign rfl zt) ?_
       refine o_done ?_
       refine e_loop ?_
       refine ⟨(false, IntKind.i64.wrap (i + 1), acc), (to_mk (L := [0]) (slots := [0, 1, 5, 6]) (w := 1) zr (gcVs_cons zh (gcV_sl hs_L rfl) (gcVs_cons zh (gcV_free rfl) (gcVs_cons zh (gcV_free rfl) (gcVs_cons zh (gcV_free rfl) gcVs_nil)))) (gcH_cons (gcO_old (by rfl) zh) gcH_nil) zr), ?_, ?_⟩
       ·rw [wr1 (by omega) (by omega)]; refine ⟨by omega, by omega, ?_, h3, hc⟩
        rw [agO_next h0]
        have hfin : agI L F i L.length = agI L F i k := by
         first | rw [← (show k = (L.length : Int) by omega)] | exact agI_fin (by omega) (by omega) (by rw [← h6]; exact (by assumption : f = false).symm)
        rw [hfin]; exact h2
       ·show (L.length - IntKind.i64.wrap (i + 1)).toNat < (L.length - i).toNat; rw [wr1 (by omega) (by omega)]; omega
     ·have p28 := g28; try simp only [d1, d2, d3, d4, d5, d6, d7, d8, d9] at p28
      refine o_skip (wA_off rfl rfl (by simp only [Tr.get_set, reduceIte, Nat.reduceEqDiff, Nat.reduceAdd, g28] <;> rfl)) rfl (by decide) ?_
      refine os (x_pick rfl (by simp only [Tr.get_set, reduceIte, Nat.reduceEqDiff, Nat.reduceAdd, ev_tmp, g28] <;> rfl) (by simp only [if_true, if_false, Bool.false_eq_true, ev_tmp, Tr.get_set, reduceIte, Nat.reduceEqDiff, Nat.reduceAdd, g28]; rfl)) ?_
      refine o_done ?_
      refine e_seq ?_
      refine k_condF (by simp only [Tr.get_set, reduceIte, Nat.reduceEqDiff, Nat.reduceAdd, ev_tmp, g28] <;> rfl) ?_
      refine k_exit ?_
      refine e_seq_exit ?_
      refine e_loop_exit ?_
      refine e_block_eq ?_
      refine e_block ?_
      refine e_seq ?_
      refine k_region hP hC ?_
      refine os (x_move rfl zt) ?_
      refine os (x_bin rfl zt (by rfl) b_add) ?_
      refine os (x_assign rfl zt) ?_
      refine o_done ?_
      refine e_loop ?_
      refine ⟨(false, IntKind.i64.wrap (i + 1), acc), (to_mk (L := [0]) (slots := [0, 1, 5, 6]) (w := 1) zr (gcVs_cons zh (gcV_sl hs_L rfl) (gcVs_cons zh (gcV_free rfl) (gcVs_cons zh (gcV_free rfl) (gcVs_cons zh (gcV_free rfl) gcVs_nil)))) (gcH_cons (gcO_old (by rfl) zh) gcH_nil) zr), ?_, ?_⟩
      ·rw [wr1 (by omega) (by omega)]; refine ⟨by omega, by omega, ?_, h3, hc⟩
       rw [agO_next h0]
       have hfin : agI L F i L.length = agI L F i k := by
        first | rw [← (show k = (L.length : Int) by omega)] | exact agI_fin (by omega) (by omega) (by rw [← h6]; exact (by assumption : f = false).symm)
       rw [hfin]; exact h2
      ·show (L.length - IntKind.i64.wrap (i + 1)).toNat < (L.length - i).toNat; rw [wr1 (by omega) (by omega)]; omega
    ·skip
     have hal : acc.length ≤ 1001 := by rw [h2]; rw [List.length_append]; have q1 := @agO_len L F i; have q2 := @agI_len L F i k; omega
     refine k_cst zm zo zl ?_
     refine k_seq ?_
     refine k_seq ?_
     refine k_region hP hC ?_
     refine os (x_move rfl zt) ?_
     refine os (x_move rfl zt) ?_
     refine os (x_lenS hs_L rfl rfl zv rfl Try.underlying23) ?_
     refine os (x_bin rfl zt zt b_lss) ?_
     refine os (x_move rfl zt) ?_
     refine o_guard rfl rfl zh (fun g35 => ?_) (fun g35 => ?_)
     ·have p35 := g35; try simp only [d1, d2, d3, d4, d5, d6, d7, d8, d9] at p35
      refine o_step (wA_on rfl rfl (by simp only [Tr.get_set, reduceIte, Nat.reduceEqDiff, Nat.reduceAdd, g35] <;> rfl)) rfl (x_move rfl zt) (by decide) ?_
      refine os (x_pick rfl (by simp only [Tr.get_set, reduceIte, Nat.reduceEqDiff, Nat.reduceAdd, ev_tmp, g35] <;> rfl) (by simp only [if_true, if_false, Bool.false_eq_true, ev_tmp, Tr.get_set, reduceIte, Nat.reduceEqDiff, Nat.reduceAdd, g35]; rfl)) ?_
      refine o_done ?_
      refine e_seq ?_
      refine k_cond (by simp only [Tr.get_set, reduceIte, Nat.reduceEqDiff, Nat.reduceAdd, ev_tmp, g35] <;> rfl) (fun g36 => ?_) (fun g36 => ?_)
      ·have p36 := g36; try simp only [d1, d2, d3, d4, d5, d6, d7, d8, d9] at p36
       refine k_skip ?_
       refine e_seq ?_
       refine k_seq ?_
       refine k_block ?_
       refine k_seq ?_
       refine k_draw hP hC zr ?_
       refine ds (x_move rfl zt) ?_
       refine ds (x_move rfl zt) ?_
       refine ds (x_indexS hs_L rfl zt zt Try.underlying23 T.s43 (by omega) (by omega)) ?_
       refine ds (x_fieldK (a := 2) rfl zt Try.underlying43 rfl T.s37 rfl) ?_
       refine ds (x_loadA rfl zt T.g37 T.s37 (l_part (a := 2) (K := 46) (whole_row zh rfl) (by assumption) rfl (by omega) (by omega) (by decide))) ?_
       refine ds (x_move rfl zt) ?_
       refine ds (x_move rfl zt) ?_
       refine ds (x_indexS hs_L rfl zt zt Try.underlying23 T.s43 (by omega) (by omega)) ?_
       refine ds (x_fieldK (a := 2) rfl zt Try.underlying43 rfl T.s37 rfl) ?_
       refine ds (x_loadA rfl zt T.g37 T.s37 (l_part (a := 2) (K := 46) (whole_row zh rfl) (by assumption) rfl (by omega) (by omega) (by decide))) ?_
       refine ds (x_bin rfl zt zt (b_eqlA (by decide) T.f37 T.g37 T.q37 zc zc)) ?_
       refine ds (x_move rfl zt) ?_
       refine d_guard rfl rfl zh (fun g38 => ?_) (fun g38 => ?_)
       ·have p38 := g38; try simp only [d1, d2, d3, d4, d5, d6, d7, d8, d9] at p38
        refine d_step (wA_on rfl rfl (by simp only [Tr.get_set, reduceIte, Nat.reduceEqDiff, Nat.reduceAdd, g35, g36, g38] <;> rfl)) rfl (x_move rfl zt) (by decide) ?_
        refine d_step (wA_on rfl rfl (by simp only [Tr.get_set, reduceIte, Nat.reduceEqDiff, Nat.reduceAdd, g35, g36, g38] <;> rfl)) rfl (x_move rfl zt) (by decide) ?_
        refine d_step (wA_on rfl rfl (by simp only [Tr.get_set, reduceIte, Nat.reduceEqDiff, Nat.reduceAdd, g35, g36, g38] <;> rfl)) rfl (x_move rfl zt) (by decide) ?_
        refine d_step (wA_on rfl rfl (by simp only [Tr.get_set, reduceIte, Nat.reduceEqDiff, Nat.reduceAdd, g35, g36, g38] <;> rfl)) rfl (x_indexS hs_L rfl zt zt Try.underlying23 T.s43 (by omega) (by omega)) (by decide) ?_
        refine d_step (wA_on rfl rfl (by simp only [Tr.get_set, reduceIte, Nat.reduceEqDiff, Nat.reduceAdd, g35, g36, g38] <;> rfl)) rfl (x_loadA rfl zt T.g43 T.s43 (l_elem (whole_row zh rfl) (by assumption) rfl (by omega) (by omega))) (by decide) ?_
        refine d_call0 (wA_on rfl rfl (by simp only [Tr.get_set, reduceIte, Nat.reduceEqDiff, Nat.reduceAdd, g35, g36, g38] <;> rfl)) rfl rfl rfl zv (by decide) ?_
        refine ⟨_, _, _, _, (tab_hit.trans (givers_c (rd_sl hs_L (by decide) (whole_row zh rfl) (cfs_len h_L).symm (cfs_free0 h_L)) h_L zc (by rw [ok_givers, decide_eq_true hb]))), ?_⟩
        refine d_step (wA_on rfl rfl (by simp only [Tr.get_set, reduceIte, Nat.reduceEqDiff, Nat.reduceAdd, g35, g36, g38] <;> rfl)) rfl (x_move rfl zt) (by decide) ?_
        refine d_step (wA_on rfl rfl (by simp only [Tr.get_set, reduceIte, Nat.reduceEqDiff, Nat.reduceAdd, g35, g36, g38] <;> rfl)) rfl (x_bin rfl zt zt b_gtr) (by decide) ?_
        refine ds (x_pick rfl (by simp only [Tr.get_set, reduceIte, Nat.reduceEqDiff, Nat.reduceAdd, ev_tmp, g35, g36, g38] <;> rfl) (by simp only [if_true, if_false, Bool.false_eq_true, ev_tmp, Tr.get_set, reduceIte, Nat.reduceEqDiff, Nat.reduceAdd, g35, g36, g38]; rfl)) ?_
        refine d_done ⟨by kernel_rfl, ?_⟩
        refine e_seq ?_
        refine k_cond (by simp only [Tr.get_set, reduceIte, Nat.reduceEqDiff, Nat.reduceAdd, ev_tmp, g35, g36, g38] <;> rfl) (fun g40 => ?_) (fun g40 => ?_)
        ·have p40 := g40; try simp only [d1, d2, d3, d4, d5, d6, d7, d8, d9] at p40
         refine k_seq ?_
         refine k_region hP hC ?_
         refine os (x_move rfl zt) ?_
         refine os (x_move rfl zt) ?_
         refine os (x_move rfl zt) ?_
         refine os (x_indexS hs_L rfl zt zt Try.underlying23 T.s43 (by omega) (by omega)) ?_
         refine os (x_loadA rfl zt T.g43 T.s43 (l_elem (whole_row zh rfl) (by assumption) rfl (by omega) (by omega))) ?_
         refine os (y_bsliceA rfl zt Try.underlying23 T.s43 T.z43 (by decide) rfl rfl (cf_len (ks := T.K43) (by first | rfl | assumption | (apply cf_part; (first | assumption | (exact cf_nth (by assumption) (by omega) (by omega))); rfl) | (exact cf_nth (by assumption) (by omega) (by omega)))) (by decide)) ?_
         refine os (x_append rfl rfl zv rfl rfl zr (cells_row Try.underlying23 T.s43 (l_all (whole_row zh rfl) (by rw [Nat.one_mul]; exact (cf_len (ks := T.K43) zc).symm))) (ya_own Try.underlying23 T.i23 (by decide) (by rw [Nat.one_mul]; exact (cf_len (ks := T.K43) zc)) (by omega) (by unfold BIG; omega) (cf_oneC (ks := T.K43) zc) (by decide) zh rfl (cfs_len hc))) ?_
         refine os (x_assign rfl zt) ?_
         refine o_done ?_
         refine e_seq ?_
         refine k_region hP hC ?_
         refine os (x_assign rfl (by rfl)) ?_
         refine o_done ?_
         refine e_block ?_
         refine e_seq ?_
         refine k_region hP hC ?_
         refine os (x_move rfl zt) ?_
         refine os (x_bin rfl zt (by rfl) b_add) ?_
         refine os (x_assign rfl zt) ?_
         refine o_done ?_
         refine e_loop ?_
         refine ⟨(true, false, IntKind.i64.wrap (k + 1), (acc ++ [nth L k])), (to_mk (L := [0, 3]) (slots := [0, 1, 5, 6, 7, 9]) (w := 1) zr (gcVs_cons zh (gcV_sl hs_L rfl) (gcVs_cons zh (gcV_free rfl) (gcVs_cons zh (gcV_sliceE rfl (by simp)) (gcVs_cons zh (gcV_free rfl) (gcVs_cons zh (gcV_free rfl) (gcVs_cons zh (gcV_free rfl) gcVs_nil)))))) (gcH_cons (gcO_old (by rfl) zh) (gcH_cons (gcO_aliasE (by rfl) zh zh (gcD_free (by rw [List.all_append, cfs_free1 hc]; simp only [Bool.true_and]; exact cf_free1 (ks := T.K43) zc)) (by simp only [List.flatten_append, List.flatten_cons, List.flatten_nil, List.append_nil, List.nil_append])) gcH_nil)) zr), ?_, ?_⟩
         ·rw [wr1 (by omega) (by omega)]; refine ⟨by omega, by omega, ?_, ?_, ?_, ?_⟩
          ·have hh := agI_hit (by omega) h4 (by rw [← h6]; exact (by assumption : f = true).symm) (ag_h3 (by assumption) (by assumption))
           rw [hh.1]; rw [hh.2, List.append_nil] at h2; rw [← h2]
          ·have hh := agI_hit (by omega) h4 (by rw [← h6]; exact (by assumption : f = true).symm) (ag_h3 (by assumption) (by assumption))
           rw [hh.1]; simp
          ·simp
          ·exact cfs_append hc (cfs_one zc)
         ·show (L.length - IntKind.i64.wrap (k + 1)).toNat < (L.length - k).toNat; rw [wr1 (by omega) (by omega)]; omega
        ·have p40 := g40; try simp only [d1, d2, d3, d4, d5, d6, d7, d8, d9] at p40
         refine k_skip ?_
         refine e_block ?_
         refine e_seq ?_
         refine k_region hP hC ?_
         refine os (x_move rfl zt) ?_
         refine os (x_bin rfl zt (by rfl) b_add) ?_
         refine os (x_assign rfl zt) ?_
         refine o_done ?_
         refine e_loop ?_
         refine ⟨(true, f, IntKind.i64.wrap (k + 1), acc), (to_mk (L := [0, 1]) (slots := [0, 1, 5, 6, 7, 9]) (w := 1) zr (gcVs_cons zh (gcV_sl hs_L rfl) (gcVs_cons zh (gcV_free rfl) (gcVs_cons zh (gcV_slice rfl) (gcVs_cons zh (gcV_free rfl) (gcVs_cons zh (gcV_free rfl) (gcVs_cons zh (gcV_free rfl) gcVs_nil)))))) (gcH_cons (gcO_old (by rfl) zh) (gcH_cons (gcO_row (by rfl) zh (gcD_free (cfs_free1 hc))) gcH_nil)) zr), ?_, ?_⟩
         ·rw [wr1 (by omega) (by omega)]; refine ⟨by omega, by omega, ?_, ?_, ?_, ?_⟩
          ·rw [agI_skip (by omega) (by first | exact ag_h1 (by assumption) | exact ag_h2 (by assumption))]; exact h2
          ·rw [agI_skip (by omega) (by first | exact ag_h1 (by assumption) | exact ag_h2 (by assumption))]; exact h6
          ·exact h3
          ·exact hc
         ·show (L.length - IntKind.i64.wrap (k + 1)).toNat < (L.length - k).toNat; rw [wr1 (by omega) (by omega)]; omega
       ·have p38 := g38; try simp only [d1, d2, d3, d4, d5, d6, d7, d8, d9] at p38
        refine d_skip (wA_off rfl rfl (by simp only [Tr.get_set, reduceIte, Nat.reduceEqDiff, Nat.reduceAdd, g35, g36, g38] <;> rfl)) rfl (by decide) ?_
        refine d_skip (wA_off rfl rfl (by simp only [Tr.get_set, reduceIte, Nat.reduceEqDiff, Nat.reduceAdd, g35, g36, g38] <;> rfl)) rfl (by decide) ?_
        refine d_skip (wA_off rfl rfl (by simp only [Tr.get_set, reduceIte, Nat.reduceEqDiff, Nat.reduceAdd, g35, g36, g38] <;> rfl)) rfl (by decide) ?_
        refine d_skip (wA_off rfl rfl (by simp only [Tr.get_set, reduceIte, Nat.reduceEqDiff, Nat.reduceAdd, g35, g36, g38] <;> rfl)) rfl (by decide) ?_
        refine d_skip (wA_off rfl rfl (by simp only [Tr.get_set, reduceIte, Nat.reduceEqDiff, Nat.reduceAdd, g35, g36, g38] <;> rfl)) rfl (by decide) ?_
        refine d_skip (wA_off rfl rfl (by simp only [Tr.get_set, reduceIte, Nat.reduceEqDiff, Nat.reduceAdd, g35, g36, g38] <;> rfl)) rfl (by decide) ?_
        refine d_skip (wA_off rfl rfl (by simp only [Tr.get_set, reduceIte, Nat.reduceEqDiff, Nat.reduceAdd, g35, g36, g38] <;> rfl)) rfl (by decide) ?_
        refine d_skip (wA_off rfl rfl (by simp only [Tr.get_set, reduceIte, Nat.reduceEqDiff, Nat.reduceAdd, g35, g36, g38] <;> rfl)) rfl (by decide) ?_
        refine ds (x_pick rfl (by simp only [Tr.get_set, reduceIte, Nat.reduceEqDiff, Nat.reduceAdd, ev_tmp, g35, g36, g38] <;> rfl) (by simp only [if_true, if_false, Bool.false_eq_true, ev_tmp, Tr.get_set, reduceIte, Nat.reduceEqDiff, Nat.reduceAdd, g35, g36, g38]; rfl)) ?_
        refine d_done ⟨by kernel_rfl, ?_⟩
        refine e_seq ?_
        refine k_condF (by simp only [Tr.get_set, reduceIte, Nat.reduceEqDiff, Nat.reduceAdd, ev_tmp, g35, g36, g38] <;> rfl) ?_
        refine k_skip ?_
        refine e_block ?_
        refine e_seq ?_
        refine k_region hP hC ?_
        refine os (x_move rfl zt) ?_
        refine os (x_bin rfl zt (by rfl) b_add) ?_
        refine os (x_assign rfl zt) ?_
        refine o_done ?_
        refine e_loop ?_
        refine ⟨(true, f, IntKind.i64.wrap (k + 1), acc), (to_mk (L := [0, 1]) (slots := [0, 1, 5, 6, 7, 9]) (w := 1) zr (gcVs_cons zh (gcV_sl hs_L rfl) (gcVs_cons zh (gcV_free rfl) (gcVs_cons zh (gcV_slice rfl) (gcVs_cons zh (gcV_free rfl) (gcVs_cons zh (gcV_free rfl) (gcVs_cons zh (gcV_free rfl) gcVs_nil)))))) (gcH_cons (gcO_old (by rfl) zh) (gcH_cons (gcO_row (by rfl) zh (gcD_free (cfs_free1 hc))) gcH_nil)) zr), ?_, ?_⟩
        ·rw [wr1 (by omega) (by omega)]; refine ⟨by omega, by omega, ?_, ?_, ?_, ?_⟩
         ·rw [agI_skip (by omega) (by first | exact ag_h1 (by assumption) | exact ag_h2 (by assumption))]; exact h2
         ·rw [agI_skip (by omega) (by first | exact ag_h1 (by assumption) | exact ag_h2 (by assumption))]; exact h6
         ·exact h3
         ·exact hc
        ·show (L.length - IntKind.i64.wrap (k + 1)).toNat < (L.length - k).toNat; rw [wr1 (by omega) (by omega)]; omega
      ·have p36 := g36; try simp only [d1, d2, d3, d4, d5, d6, d7, d8, d9] at p36
       refine k_exit ?_
       refine e_seq_exit ?_
       refine e_loop_exit ?_
       refine e_block_eq ?_
       refine e_block ?_
       refine e_seq ?_
       refine k_region hP hC ?_
       refine os (x_move rfl zt) ?_
       refine os (x_bin rfl zt (by rfl) b_add) ?_
       refine os (x_assign rfl zt) ?_
       refine o_done ?_
       refine e_loop ?_
       refine ⟨(true, IntKind.i64.wrap (i + 1), acc), (to_mk (L := [0, 1]) (slots := [0, 1, 5, 6]) (w := 1) zr (gcVs_cons zh (gcV_sl hs_L rfl) (gcVs_cons zh (gcV_free rfl) (gcVs_cons zh (gcV_slice rfl) (gcVs_cons zh (gcV_free rfl) gcVs_nil)))) (gcH_cons (gcO_old (by rfl) zh) (gcH_cons (gcO_row (by rfl) zh (gcD_free (cfs_free1 hc))) gcH_nil)) zr), ?_, ?_⟩
       ·rw [wr1 (by omega) (by omega)]; refine ⟨by omega, by omega, ?_, h3, hc⟩
        rw [agO_next h0]
        have hfin : agI L F i L.length = agI L F i k := by
         first | rw [← (show k = (L.length : Int) by omega)] | exact agI_fin (by omega) (by omega) (by rw [← h6]; exact (by assumption : f = false).symm)
        rw [hfin]; exact h2
       ·show (L.length - IntKind.i64.wrap (i + 1)).toNat < (L.length - i).toNat; rw [wr1 (by omega) (by omega)]; omega
     ·have p35 := g35; try simp only [d1, d2, d3, d4, d5, d6, d7, d8, d9] at p35
      refine o_skip (wA_off rfl rfl (by simp only [Tr.get_set, reduceIte, Nat.reduceEqDiff, Nat.reduceAdd, g35] <;> rfl)) rfl (by decide) ?_
      refine os (x_pick rfl (by simp only [Tr.get_set, reduceIte, Nat.reduceEqDiff, Nat.reduceAdd, ev_tmp, g35] <;> rfl) (by simp only [if_true, if_false, Bool.false_eq_true, ev_tmp, Tr.get_set, reduceIte, Nat.reduceEqDiff, Nat.reduceAdd, g35]; rfl)) ?_
      refine o_done ?_
      refine e_seq ?_
      refine k_condF (by simp only [Tr.get_set, reduceIte, Nat.reduceEqDiff, Nat.reduceAdd, ev_tmp, g35] <;> rfl) ?_
      refine k_exit ?_
      refine e_seq_exit ?_
      refine e_loop_exit ?_
      refine e_block_eq ?_
      refine e_block ?_
      refine e_seq ?_
      refine k_region hP hC ?_
      refine os (x_move rfl zt) ?_
      refine os (x_bin rfl zt (by rfl) b_add) ?_
      refine os (x_assign rfl zt) ?_
      refine o_done ?_
      refine e_loop ?_
      refine ⟨(true, IntKind.i64.wrap (i + 1), acc), (to_mk (L := [0, 1]) (slots := [0, 1, 5, 6]) (w := 1) zr (gcVs_cons zh (gcV_sl hs_L rfl) (gcVs_cons zh (gcV_free rfl) (gcVs_cons zh (gcV_slice rfl) (gcVs_cons zh (gcV_free rfl) gcVs_nil)))) (gcH_cons (gcO_old (by rfl) zh) (gcH_cons (gcO_row (by rfl) zh (gcD_free (cfs_free1 hc))) gcH_nil)) zr), ?_, ?_⟩
      ·rw [wr1 (by omega) (by omega)]; refine ⟨by omega, by omega, ?_, h3, hc⟩
       rw [agO_next h0]
       have hfin : agI L F i L.length = agI L F i k := by
        first | rw [← (show k = (L.length : Int) by omega)] | exact agI_fin (by omega) (by omega) (by rw [← h6]; exact (by assumption : f = false).symm)
       rw [hfin]; exact h2
      ·show (L.length - IntKind.i64.wrap (i + 1)).toNat < (L.length - i).toNat; rw [wr1 (by omega) (by omega)]; omega
  ·have p22 := g22; try simp only [d1, d2, d3, d4, d5, d6, d7, d8, d9] at p22
   refine k_exit ?_
   refine e_seq_exit ?_
   refine e_loop_exit ?_
   refine e_block_eq ?_
   refine e_seq ?_
   refine k_seq ?_
   refine k_region hP hC ?_
   refine os (x_move rfl zt) ?_
   refine os (x_assign rfl zt) ?_
   refine o_done ?_
   refine e_seq ?_
   refine k_ret ?_
   have hi : i = L.length := by omega
   rw [hi] at h2
   have h2 : acc = agreedL L F := h2
   unfold val_agreed33 new_agreed33
   rw [← h2]
   have hne : acc.length ≠ 0 := by intro e; have e2 := List.eq_nil_of_length_eq_zero e; subst e2; cases h3
   rw [outV_ne hne, outN_ne hne]
   refine gives_mk (L := [0, 1]) (slots := [4]) (w := 1) (.inr rfl) zr (gcVs_cons zh (gcV_slice rfl) gcVs_nil) (gcH_cons (gcO_old (by rfl) zh) (gcH_cons (gcO_row (by rfl) zh (gcD_free (cfs_free1 hc))) gcH_nil)) zr (by simp only [Try.results17, resA, cst, mkE, Tr.get_set, reduceIte, Nat.reduceEqDiff, Nat.reduceAdd] <;> rfl) ?_
   rfl
theorem con_agreed33 : Con Try.prog 17 c_agreed33 := con_flat Try.func17 rfl fun us cs v new h => by
 unfold spec_agreed33 at h
 split at h
 case h_2 => cases h
 rename_i s_L F c_L
 split at h
 case isFalse => cases h
 rename_i hc
 try simp only [Bool.and_eq_true] at hc
 obtain ⟨⟨q_L, r_L⟩, hok⟩ := hc
 cases h
 obtain ⟨h_L, e_L⟩ := isRows_cfs (by decide) r_L
 have hs_L := slOk_sl (n := (chunks 46 c_L).length) q_L (by decide) (rows_len (ks := T.K43) (by decide) r_L)
 have key := agreed33_m hs_L h_L hok
 have hrows : [(chunks T.K43.length c_L).flatten] = [c_L] := by rw [e_L]
 rw [← hrows]
 exact key
theorem agreed33_c {H : AH} {s_L : Value} {L : List (List Value)} {F : Int} (hr_L : Rd H 46 s_L L.length L.flatten) (h_L : cfs T.K43 L) (hok : ok_agreed33 L F = true) : c_agreed33 [s_L, .int .i64 F] H = some (outV H.next 46 (agreedL L F).length, addRows H (outN (agreedL L F).length (agreedL L F).flatten)) := by
 obtain ⟨u_L, a_L, b_L⟩ := hr_L 0
 have k_L := isRows_flat (by decide) h_L
 have k2_L : chunks 46 L.flatten = L := k_L.2
 exact flatC_at (v := val_agreed33 L F) (new := new_agreed33 L F) (cl_sl a_L (cl_fr rfl cl_nil)) (by simp only [spec_agreed33, sl_slOk b_L (cfs_len h_L), k_L.1, k2_L, hok, Bool.and_self, if_true]) (by unfold new_agreed33 outN; split; rfl; simp only [List.all_cons, List.all_nil, Bool.and_true]; exact cfs_free0 (agreedL_cfs h_L)) (out_gc)
end Go.Proofs.Ytohhcnehcjpekaa
