/-
  Contracts: answers without those of some workers.
-/
import Derived.Test.YtohhcnehcjpekaaJAg
namespace Go.Proofs.Ytohhcnehcjpekaa
open Go.AM
set_option maxRecDepth 100000
set_option maxHeartbeats 1000000
set_option linter.unusedSimpArgs false
set_option linter.unusedVariables false
theorem gcV_fn1 {pos : Nat → Option Nat} {d : Nat} {f : FuncId} {b : Nat} (hb : pos b = some b) : gcV pos (d + 2) (.func (.func f) ⟨[]⟩ ⟨[.pointer (some ⟨b, 0, none⟩)]⟩) = some (.func (.func f) ⟨[]⟩ ⟨[.pointer (some ⟨b, 0, none⟩)]⟩) := by
 have e : [Value.pointer (some ⟨b, 0, none⟩)].mapM (gcV pos (d + 1)) = some [.pointer (some ⟨b, 0, none⟩)] := by simp [gcV_ptr hb]
 have e0 : ([] : List Value).mapM (gcV pos (d + 1)) = some [] := rfl
 show (if free1 _ = true then _ else _) = _
 rw [if_neg (by simp [free1, free0])]
 simp only [e, e0]
theorem gcO_oldW {k j id : Nat} {pos : Nat → Option Nat} {h : AH} {d d' : List Value} {c low n0 : Nat} {ro : Bool} (hj : (Nat.blt j k && !Nat.blt j h.wr && Nat.blt c k) = true) (hg : h.t.get id = some (.row d c low ro n0)) (hd : gcD pos d = some d') (hn : n0 = d'.length) : gcO k pos h j id = some (.row d' c low ro d'.length) := by
 simp only [Bool.and_eq_true, Bool.not_eq_true', Nat.blt_eq] at hj
 obtain ⟨⟨h1, h2⟩, h3⟩ := hj
 have h2 : ¬ j < h.wr := by intro q; rw [← Nat.blt_eq] at q; rw [q] at h2; cases h2
 subst hn
 unfold gcO
 rw [if_neg ow, hg]
 simp only
 rw [if_pos h1, if_pos h3, hd]
 rfl
theorem cfs_oneC {ks : List Lk} {L : List (List Value)} (h : cfs ks L) : L.flatten.all oneC = true := by
 rw [List.all_eq_true]
 intro v hv
 obtain ⟨a, ha, hva⟩ := List.mem_flatten.1 hv
 exact List.all_eq_true.1 (cf_oneC (h a ha)) v hva
def ok_clone (L : List (List Value)) (nl : Bool) : Bool := decide (L.length ≤ 1000)
def val_clone (L : List (List Value)) (nl : Bool) : Value := if nl then .slice none 0 0 else .slice (some ⟨1, 0, none⟩) L.length (if L.length = 0 then 0 else L.length + 46)
def new_clone (L : List (List Value)) (nl : Bool) : List (List Value) := if nl then [] else [L.flatten]
def spec_clone : Go.AM.Spec := fun us cs => match us, cs with
 | [s_L], [c_L] => if slOk 0 46 c_L s_L && isRows T.K43 c_L && ok_clone (chunks 46 c_L) (isNilS s_L) then some (val_clone (chunks 46 c_L) (isNilS s_L), new_clone (chunks 46 c_L) (isNilS s_L)) else none
 | _, _ => none
def c_clone := flatC [.sl 46] spec_clone
theorem clone_m {s_L : Value} {L : List (List Value)} {nl : Bool} (hs_L : Sl 0 46 L.length s_L) (h_L : cfs T.K43 L) (e_nl : isNilS s_L = nl) (hok : ok_clone L nl = true) : Meets Try.prog (.func 52) [s_L] (cheap [L.flatten]) (val_clone L nl) (rheap [L.flatten] (new_clone L nl)) := by
 have hP := Fits
 have hC : CallSound Try.prog (tabOf []) := tab_sound tab_end
 simp only [ok_clone, Bool.and_eq_true, decide_eq_true_eq] at hok
 have hb := hok
 refine meets_start (sz := 8) hP Try.func52 rfl rfl zo (by simp only [Tr.ofList, roRows, Nat.zero_add, Nat.reduceAdd] <;> rfl) zl ?_
 rcases hs_L with ⟨hsl, hn⟩ | hsl
 ·skip
  subst hsl
  have hs_L : Sl 0 46 L.length (.slice none 0 0) := .inl ⟨rfl, hn⟩
  have hnl : nl = true := e_nl.symm
  ·skip
   skip
   ·skip
    refine k_seq ?_
    refine k_region hP hC ?_
    refine os (x_assign rfl (by rfl)) ?_
    refine o_done ?_
    refine e_seq ?_
    refine k_seq ?_
    refine k_seq ?_
    refine k_region hP hC ?_
    refine os (x_move rfl zt) ?_
    refine os (x_bin (u := .bool true) rfl zt (by rfl) (by rfl)) ?_
    refine o_done ?_
    refine e_seq ?_
    refine k_condT zt ?_
    refine k_seq ?_
    refine k_region hP hC ?_
    refine os (x_assign rfl (by rfl)) ?_
    refine o_done ?_
    refine e_seq ?_
    refine k_ret ?_
    refine e_seq_ret ?_
    unfold val_clone new_clone
    rw [hnl]
    simp only [if_true]
    refine gives_mk (L := [0]) (slots := [2]) (w := 1) (.inr rfl) zr (gcVs_cons zh (gcV_free rfl) gcVs_nil) (gcH_cons (gcO_old (by rfl) zh) gcH_nil) zr (by simp only [Try.results52, resA, cst, mkE, Tr.get_set, reduceIte, Nat.reduceEqDiff, Nat.reduceAdd] <;> rfl) ?_
    rfl
 ·skip
  subst hsl
  have hs_L : Sl 0 46 L.length (.slice (some ⟨0, 0, none⟩) L.length (L.length + 46)) := .inr rfl
  have hnl : nl = false := e_nl.symm
  rcases Nat.eq_zero_or_pos L.length with hz0 | hz0
  ·skip
   have hL0 : L = [] := List.eq_nil_of_length_eq_zero hz0
   subst hL0
   ·skip
    refine k_seq ?_
    refine k_region hP hC ?_
    refine os (x_assign rfl (by rfl)) ?_
    refine o_done ?_
    refine e_seq ?_
    refine k_seq ?_
    refine k_seq ?_
    refine k_region hP hC ?_
    refine os (x_move rfl zt) ?_
    refine os (x_bin (u := .bool false) rfl zt (by rfl) (b_eqlNilS Try.underlying23 (.inl ⟨rfl, rfl⟩))) ?_
    refine o_done ?_
    refine e_seq ?_
    refine k_condF zt ?_
    refine k_skip ?_
    refine e_seq ?_
    refine k_seq ?_
    refine k_region hP hC ?_
    refine os (y_bslice0 rfl Try.underlying23 T.s43 T.z43 zd rfl rfl) ?_
    refine os (x_move rfl zt) ?_
    refine os (x_append rfl rfl zv rfl rfl zr (cells_sl hs_L Try.underlying23 T.s43 (whole_row zh rfl) (cfs_len h_L)) (ya_app00 Try.underlying23 T.i23 zd)) ?_
    refine os (x_assign rfl zt) ?_
    refine o_done ?_
    refine e_seq ?_
    refine k_ret ?_
    unfold val_clone new_clone
    rw [hnl]
    simp only [Bool.false_eq_true, if_false]
    simp only [List.length_nil, if_true, List.flatten_nil]
    refine gives_mk (L := [0, 1]) (slots := [2]) (w := 1) (.inr rfl) zr (gcVs_cons zh (gcV_slice rfl) gcVs_nil) (gcH_cons (gcO_old (by rfl) zh) (gcH_cons (gcO_row (by rfl) zh (gcD_free rfl)) gcH_nil)) zr (by simp only [Try.results52, resA, cst, mkE, Tr.get_set, reduceIte, Nat.reduceEqDiff, Nat.reduceAdd] <;> rfl) ?_
    rfl
  ·skip
   have hz : ¬ L.length = 0 := by omega
   ·skip
    refine k_seq ?_
    refine k_region hP hC ?_
    refine os (x_assign rfl (by rfl)) ?_
    refine o_done ?_
    refine e_seq ?_
    refine k_seq ?_
    refine k_seq ?_
    refine k_region hP hC ?_
    refine os (x_move rfl zt) ?_
    refine os (x_bin (u := .bool false) rfl zt (by rfl) (b_eqlNilS Try.underlying23 (.inl ⟨rfl, rfl⟩))) ?_
    refine o_done ?_
    refine e_seq ?_
    refine k_condF zt ?_
    refine k_skip ?_
    refine e_seq ?_
    refine k_seq ?_
    refine k_region hP hC ?_
    refine os (y_bslice0 rfl Try.underlying23 T.s43 T.z43 zd rfl rfl) ?_
    refine os (x_move rfl zt) ?_
    refine os (x_append rfl rfl zv rfl rfl zr (cells_sl hs_L Try.underlying23 T.s43 (whole_row zh rfl) (cfs_len h_L)) (ya_app0 Try.underlying23 T.i23 zd (cfs_len h_L) ow (by unfold BIG; omega) (cfs_oneC h_L) ow (l_all (d := []) (whole_row zh rfl) rfl))) ?_
    refine os (x_assign rfl zt) ?_
    refine o_done ?_
    refine e_seq ?_
    refine k_ret ?_
    unfold val_clone new_clone
    rw [hnl]
    simp only [Bool.false_eq_true, if_false]
    rw [if_neg hz]
    refine gives_mk (L := [0, 2]) (slots := [2]) (w := 1) (.inr rfl) zr (gcVs_cons zh (gcV_slice rfl) gcVs_nil) (gcH_cons (gcO_old (by rfl) zh) (gcH_cons (gcO_row (by rfl) zh (gcD_free (cfs_free1 h_L))) gcH_nil)) zr (by simp only [Try.results52, resA, cst, mkE, Tr.get_set, reduceIte, Nat.reduceEqDiff, Nat.reduceAdd] <;> rfl) ?_
    rfl
theorem con_clone : Con Try.prog 52 c_clone := con_flat Try.func52 rfl fun us cs v new h => by
 unfold spec_clone at h
 split at h
 case h_2 => cases h
 rename_i s_L c_L
 split at h
 case isFalse => cases h
 rename_i hc
 try simp only [Bool.and_eq_true] at hc
 obtain ⟨⟨q_L, r_L⟩, hok⟩ := hc
 cases h
 obtain ⟨h_L, e_L⟩ := isRows_cfs zd r_L
 have hs_L := slOk_sl (n := (chunks 46 c_L).length) q_L zd (rows_len (ks := T.K43) zd r_L)
 have key := clone_m hs_L h_L rfl hok
 have hrows : [(chunks T.K43.length c_L).flatten] = [c_L] := by rw [e_L]
 rw [← hrows]
 exact key
theorem clone_c {H : AH} {s_L : Value} {L : List (List Value)} {nl : Bool} (hr_L : Rd H 46 s_L L.length L.flatten) (h_L : cfs T.K43 L) (e_nl : isNilS s_L = nl) (hok : ok_clone L nl = true) : c_clone [s_L] H = some (if nl then .slice none 0 0 else .slice (some ⟨H.next, 0, none⟩) L.length (if L.length = 0 then 0 else L.length + 46), addRows H (if nl then [] else [L.flatten])) := by
 obtain ⟨u_L, a_L, b_L⟩ := hr_L 0
 have k_L := isRows_flat zd h_L
 have k2_L : chunks 46 L.flatten = L := k_L.2
 exact flatC_at (v := val_clone L nl) (new := new_clone L nl) (cl_sl a_L cl_nil) (by simp only [spec_clone, sl_slOk b_L (cfs_len h_L), k_L.1, k2_L, (canonS_nil a_L).trans e_nl, hok, Bool.and_self, if_true]) (by unfold new_clone; split; rfl; simp only [List.all_cons, List.all_nil, Bool.and_true]; exact cfs_free0 h_L) (by unfold val_clone; split; exact gcV_free rfl; exact gcV_slice shp_k)
theorem q_start {P : Program} {h0 : AH} {c : Code} {args : List Value} {n sz : Nat} {e : Tr Value} {h : AH} {Q : Ex → St → Prop} (hz : max args.length n = sz) (he : Tr.ofList args 0 .leaf = e) (k : TriK P h0 c [] ⟨e, sz, h⟩ Q) : TriK P h0 c [] ⟨Tr.ofList args 0 .leaf, max args.length n, h⟩ Q := by
 subst hz; subst he; exact k
theorem q_heap {P : Program} {h0 : AH} {c : Code} {sz nx wr : Nat} {e : Tr Value} {os : List AObj} {t : Tr AObj} {Q : Ex → St → Prop} (ht : Tr.ofList os 0 .leaf = t) (k : TriK P h0 c [] ⟨e, sz, ⟨t, nx, wr⟩⟩ Q) : TriK P h0 c [] ⟨e, sz, ⟨Tr.ofList os 0 .leaf, nx, wr⟩⟩ Q := by
 subst ht; exact k
def R53 (w : List Int) (args : List Value) (h : AH) (v : Value) : Prop := ∃ (a : List Value) (s : Value), args = [.agg ⟨a⟩, .pointer (some ⟨2, 0, none⟩)] ∧ cf T.K43 a = true ∧ h.t.get 2 = some (.row [s] 2 BIG false 1) ∧ h.t.get 1 = some (.row (ints w) 1 BIG true (ints w).length) ∧ Sl 1 1 w.length s ∧ 2 < h.next ∧ h.next ≤ 9 ∧ v = .bool (decide (wkr a ∈ w))
theorem R53_hit {w : List Int} {args : List Value} {h : AH} {v : Value} (hr : R53 w args h v) : cRel (R53 w) args h = some (v, h) := by
 refine cRel_hit hr fun v' h' => ?_
 obtain ⟨a, s, rfl, _, _, _, _, _, _, rfl⟩ := hr
 obtain ⟨a', s', e, _, _, _, _, _, _, rfl⟩ := h'
 cases e
 rfl
theorem clos_m {w : List Int} (hw : w.length < 4611686018427387904) {args : List Value} {h : AH} {v : Value} (hr : R53 w args h v) : Meets Try.prog (.func 53) args h v h := by
 obtain ⟨a, s, rfl, h_a, h2, h1, hs_w, hn2, hn9, rfl⟩ := hr
 have hP := Fits
 have hC : CallSound Try.prog (tabOf [(47, c_contains)]) := tab_sound (tab_cons con_contains tab_end)
 obtain ⟨t, nx, wr0⟩ := h
 have h2 : t.get 2 = _ := h2
 have h1 : t.get 1 = _ := h1
 have hn2 : 2 < nx := hn2
 have hn9 : nx ≤ 9 := hn9
 refine meets_quietK hP Try.func53 rfl rfl ?_
 refine q_start (sz := 8) rfl zo ?_
 refine k_seq ?_
 refine k_region hP hC ?_
 refine os (y_boxA rfl zt) ?_
 refine os (x_assign rfl (by rfl)) ?_
 refine o_done ?_
 refine e_seq ?_
 refine k_seq ?_
 refine k_region hP hC ?_
 refine os (x_load1 rfl zt T.g22 (l_all (whole_row (by rw [Tr.get_set, if_neg ow]; exact h2) rfl) rfl)) ?_
 refine os (x_field (off' := 0) rfl zt Try.underlying43 rfl T.s3 rfl) ?_
 refine os (x_load1 rfl zt T.g3 (by first | exact l_boxI (whole_row zh rfl) (by (first | assumption | (exact cf_nth zs ow ow))) rfl | exact l_boxS (whole_row zh rfl) (by (first | assumption | (exact cf_nth zs ow ow))) rfl | (simp only [loadC, AH.fam, Tr.get_set, reduceIte, Nat.reduceEqDiff, Nat.reduceAdd, Fam.rb, List.drop_zero, List.drop_succ_cons, List.take_succ_cons, List.take_zero, List.length_cons, List.length_nil, Nat.zero_le, Nat.reduceLeDiff, and_self, true_and] <;> rfl))) ?_
 refine o_call0 (wA_none rfl) rfl rfl rfl zv zd ?_
 refine ⟨_, _, (tab_hit.trans (contains_c (rd_sl hs_w zd (whole_row (by rw [Tr.get_set, if_neg ow]; exact h1) rfl) (by rw [ints_len, Nat.mul_one]) (ints_free0 _)) (by rw [ok_contains, decide_eq_true hw]))), ?_⟩
 refine os (x_assign rfl zt) ?_
 refine o_done ?_
 refine e_seq ?_
 refine k_ret ?_
 refine ⟨.inr rfl, ⟨_, (by simp only [Try.results53, resA, Tr.get_set, reduceIte, Nat.reduceEqDiff, Nat.reduceAdd] <;> rfl), ?_⟩, ?_⟩
 ·rfl
 ·exact Nat.ble_eq_true_of_le (by show nx ≤ BIG; unfold BIG; omega)
theorem idxDel_m {L : List (List Value)} {w : List Int} {s_w : Value} {c : Nat} (hb : L.length ≤ 1000) (h_L : cfs T.K43 L) (hw : w.length < 4611686018427387904) (hs_w : Sl 1 1 w.length s_w) : Meets Try.prog (.func 36) [.slice (some ⟨3, 0, none⟩) L.length c, .func (.func 53) ⟨[]⟩ ⟨[.pointer (some ⟨2, 0, none⟩)]⟩] ⟨Tr.ofList [.row L.flatten 0 BIG true L.flatten.length, .row (ints w) 1 BIG true (ints w).length, .row [s_w] 2 BIG false 1, .row L.flatten 3 BIG false L.flatten.length] 0 .leaf, 4, BIG⟩ (.int .i64 (idxP (fun a => decide (wkr a ∈ w)) L)) ⟨Tr.ofList [.row L.flatten 0 BIG true L.flatten.length, .row (ints w) 1 BIG true (ints w).length, .row [s_w] 2 BIG false 1, .row L.flatten 3 BIG false L.flatten.length] 0 .leaf, 4, BIG⟩ := by
 have hP := Fits
 have hC : CallSound Try.prog (tabOf [(53, cRel (R53 w))]) := tab_sound (tab_cons (con_rel Try.func53 rfl fun _ _ _ hr => clos_m hw hr) tab_end)
 refine meets_quietK hP Try.func36 rfl rfl ?_
 refine q_start (sz := 19) rfl zo ?_
 refine q_heap zo ?_
 refine k_seq ?_
 refine k_region hP hC ?_
 refine os (x_assign rfl (by rfl)) ?_
 refine o_done ?_
 refine e_seq ?_
 refine k_seq ?_
 refine k_seq ?_
 refine k_region hP hC ?_
 refine os (x_move rfl zt) ?_
 refine os (x_len rfl rfl zv rfl Try.underlying23) ?_
 refine os (x_move rfl (by rfl)) ?_
 refine o_done ?_
 refine e_seq ?_
 refine k_block ?_
 refine k_loop (α := Int) (fun i => cst 19 [0, 1, 7, 8] [.slice (some ⟨3, 0, none⟩) L.length c, .func (.func 53) ⟨[]⟩ ⟨[.pointer (some ⟨2, 0, none⟩)]⟩, .int .i64 L.length, .int .i64 i] [.row L.flatten 0 BIG true L.flatten.length, .row (ints w) 1 BIG true (ints w).length, .row [s_w] 2 BIG false 1, .row L.flatten 3 BIG false L.flatten.length] 4) (fun i => 0 ≤ i ∧ i ≤ L.length ∧ (L.take i.toNat).all (fun a => !(fun a => decide (wkr a ∈ w)) a) = true) (fun i => (L.length - i).toNat) 0 (to_mk (L := [0, 1, 2, 3]) (slots := [0, 1, 7, 8]) (w := 4) zr (gcVs_cons zh (gcV_slice rfl) (gcVs_cons zh (gcV_fn1 rfl) (gcVs_cons zh (gcV_free rfl) (gcVs_cons zh (gcV_free rfl) gcVs_nil)))) (gcH_cons (gcO_old (by rfl) zh) (gcH_cons (gcO_old (by rfl) zh) (gcH_cons (gcO_old (by rfl) zh) (gcH_cons (gcO_old (by rfl) zh) gcH_nil)))) zr) ⟨by omega, by omega, by simp⟩ ?_
 rintro i ⟨h0, h1, h2⟩
 refine k_cst zm zo zl ?_
 refine k_seq ?_
 refine k_region hP hC ?_
 refine os (x_bin rfl zt zt b_lss) ?_
 refine o_done ?_
 refine e_seq ?_
 refine k_seq ?_
 refine k_cond zt (fun g2 => ?_) (fun g2 => ?_)
 ·have p2 := g2; try simp only [d1, d2, d3, d4, d5, d6, d7, d8, d9] at p2
  refine k_skip ?_
  refine e_seq ?_
  refine k_seq ?_
  refine k_block ?_
  refine k_seq ?_
  refine k_region hP hC ?_
  refine os (x_move rfl zt) ?_
  refine os (x_assign rfl zt) ?_
  refine o_done ?_
  refine e_seq ?_
  refine k_seq ?_
  refine k_region hP hC ?_
  refine os (x_move rfl zt) ?_
  refine os (x_move rfl zt) ?_
  refine os (x_move rfl zt) ?_
  refine os (x_index rfl zt zt Try.underlying23 T.s43 ow ow) ?_
  refine os (x_loadA rfl zt T.g43 T.s43 (l_elem (whole_row zh rfl) zs rfl ow ow)) ?_
  refine o_callC (wA_none rfl) rfl rfl rfl zt zv zd ?_
  refine ⟨_, _, (tab_hit.trans (R53_hit ⟨nth L i, s_w, rfl, cf_nth h_L ow ow, zh, zh, hs_w, Nat.le_of_ble_eq_true rfl, Nat.le_of_ble_eq_true rfl, rfl⟩)), ?_⟩
  refine o_done ?_
  refine e_seq ?_
  refine k_cond (by simp only [Tr.get_set, reduceIte, Nat.reduceEqDiff, Nat.reduceAdd, ev_tmp, g2] <;> rfl) (fun g4 => ?_) (fun g4 => ?_)
  ·have p4 := g4; try simp only [d1, d2, d3, d4, d5, d6, d7, d8, d9] at p4
   refine k_seq ?_
   refine k_region hP hC ?_
   refine os (x_move rfl zt) ?_
   refine os (x_assign rfl zt) ?_
   refine o_done ?_
   refine e_seq ?_
   refine k_ret ?_
   refine e_block_ret ?_
   refine e_seq_ret ?_
   refine e_loop_ret ?_
   refine e_block_ret ?_
   refine e_seq_ret ?_
   refine ⟨.inr rfl, ⟨_, (by simp only [Try.results36, resA, Tr.get_set, reduceIte, Nat.reduceEqDiff, Nat.reduceAdd] <;> rfl), ?_⟩, ?_⟩
   ·show Value.int _ _ = _; first | rw [idxP_here h0 ow h2 zs] | rw [idxP_none (all_end ow h2)]
   ·rfl
  ·have p4 := g4; try simp only [d1, d2, d3, d4, d5, d6, d7, d8, d9] at p4
   refine k_skip ?_
   refine e_block ?_
   refine e_seq ?_
   refine k_region hP hC ?_
   refine os (x_bin rfl zt (by rfl) b_add) ?_
   refine os (x_move rfl zt) ?_
   refine o_done ?_
   refine e_loop ?_
   refine ⟨IntKind.i64.wrap (i + 1), (to_mk (L := [0, 1, 2, 3]) (slots := [0, 1, 7, 8]) (w := 4) zr (gcVs_cons zh (gcV_slice rfl) (gcVs_cons zh (gcV_fn1 rfl) (gcVs_cons zh (gcV_free rfl) (gcVs_cons zh (gcV_free rfl) gcVs_nil)))) (gcH_cons (gcO_old (by rfl) zh) (gcH_cons (gcO_old (by rfl) zh) (gcH_cons (gcO_old (by rfl) zh) (gcH_cons (gcO_old (by rfl) zh) gcH_nil)))) zr), ?_, ?_⟩
   ·rw [wr1 ow ow]; exact ⟨by omega, by omega, all_next ow ow h2 (by simpa using g4)⟩
   ·rw [wr1 ow ow]; omega
 ·have p2 := g2; try simp only [d1, d2, d3, d4, d5, d6, d7, d8, d9] at p2
  refine k_exit ?_
  refine e_seq_exit ?_
  refine e_loop_exit ?_
  refine e_block_eq ?_
  refine e_seq ?_
  refine k_seq ?_
  refine k_region hP hC ?_
  refine os (x_assign rfl (by rfl)) ?_
  refine o_done ?_
  refine e_seq ?_
  refine k_ret ?_
  refine ⟨.inr rfl, ⟨_, (by simp only [Try.results36, resA, Tr.get_set, reduceIte, Nat.reduceEqDiff, Nat.reduceAdd] <;> rfl), ?_⟩, ?_⟩
  ·show Value.int _ _ = _; first | rw [idxP_here h0 ow h2 zs] | rw [idxP_none (all_end ow h2)]
  ·rfl
def Z43 : List Value := [.int .i64 0, .int .i64 0, .int .u8 0, .int .u8 0, .int .u8 0, .int .u8 0, .int .u8 0, .int .u8 0, .int .u8 0, .int .u8 0, .int .u8 0, .int .u8 0, .int .u8 0, .int .u8 0, .int .u8 0, .int .u8 0, .int .u8 0, .int .u8 0, .string .empty, .int .i64 0, .int .i64 0, .int .i64 0, .int .i64 0, .int .i64 0, .string .empty, .int .i64 0, .int .i64 0, .int .i64 0, .int .i64 0, .int .u8 0, .int .u8 0, .int .u8 0, .int .u8 0, .int .u8 0, .int .u8 0, .int .u8 0, .int .u8 0, .int .u8 0, .int .u8 0, .int .u8 0, .int .u8 0, .int .u8 0, .int .u8 0, .int .u8 0, .int .u8 0, .string .empty]
def delV (L : List (List Value)) (w : List Int) : Value := .slice (some ⟨3, 0, none⟩) (keptL w L).length (if L.length = 0 then 0 else (keptL w L).length + 46)
def delD (L : List (List Value)) (w : List Int) : List Value := (keptL w L).flatten ++ zerosC Z43 (L.length - (keptL w L).length)
theorem idxP_split {p : List Value → Bool} {L : List (List Value)} {F : Int} (h : idxP p L = F) : (F = -1 ∧ L.filter (fun a => !p a) = L) ∨ (0 ≤ F ∧ F < L.length ∧ (L.take (F + 1).toNat).filter (fun a => !p a) = L.take F.toNat) := by
 unfold idxP at h
 cases hf : L.findIdx? p with
 | none =>
  rw [hf] at h
  left
  refine ⟨h.symm, List.filter_eq_self.2 fun a ha => ?_⟩
  have := List.findIdx?_eq_none_iff.1 hf a ha
  rw [this]; rfl
 | some k =>
  rw [hf] at h
  right
  obtain ⟨hk, hpk, hlt⟩ := List.findIdx?_eq_some_iff_getElem.1 hf
  simp only at h
  subst h
  refine ⟨by omega, by omega, ?_⟩
  rw [show ((k : Int) + 1).toNat = k + 1 by omega, show ((k : Int)).toNat = k by omega, List.take_add_one, List.getElem?_eq_getElem hk, List.filter_append]
  have e1 : (L.take k).filter (fun a => !p a) = L.take k := by
   refine List.filter_eq_self.2 fun a ha => ?_
   obtain ⟨j, hj, rfl⟩ := List.mem_take_iff_getElem.1 ha
   have := hlt j ow
   simpa using this
  rw [e1]
  simp [hpk]
theorem delD_none {L : List (List Value)} {w : List Int} (h : keptL w L = L) : delD L w = L.flatten := by
 unfold delD
 rw [h, Nat.sub_self, zerosC, List.append_nil]
theorem delV_none {L : List (List Value)} {w : List Int} {c : Nat} (h : keptL w L = L) (hc : L.length = 0 ∧ c = 0 ∨ 0 < L.length ∧ c = L.length + 46) : delV L w = .slice (some ⟨3, 0, none⟩) L.length c := by
 unfold delV
 rw [h]
 rcases hc with ⟨h1, rfl⟩ | ⟨h1, rfl⟩
 ·rw [if_pos h1]
 ·rw [if_neg ow]
theorem del_nth {L D : List (List Value)} {i j : Int} {K : List (List Value)} (hD : D = K ++ L.drop i.toNat) (hK : (K.length : Int) = i) (h1 : i ≤ j) (h2 : j < L.length) : nth D j = nth L j := by
 have hl : j.toNat < D.length := by rw [hD, List.length_append, List.length_drop]; omega
 rw [nth_eq ow, nth_eq ow]
 simp only [hD]
 rw [List.getElem_append_right ow, List.getElem_drop]
 congr 1
 omega
theorem del_keep {L D : List (List Value)} {i j : Int} {K : List (List Value)} (h0 : 0 ≤ i) (hc : cfs T.K43 D) (hx : cf T.K43 (nth D j) = true) (hD : D = K ++ L.drop i.toNat) (hK : (K.length : Int) = i) (h1 : i < j) (h2 : j < L.length) :
  splice D.flatten (0 + i.toNat * 46) (nth D j) = (K ++ [nth D j] ++ L.drop (i + 1).toNat).flatten ∧ cfs T.K43 (K ++ [nth D j] ++ L.drop (i + 1).toNat) ∧ (K ++ [nth D j] ++ L.drop (i + 1).toNat).length = L.length := by
 have hi : i.toNat < L.length := by omega
 have e : L.drop i.toNat = L[i.toNat] :: L.drop (i + 1).toNat := by rw [show (i + 1).toNat = i.toNat + 1 by omega]; exact List.drop_eq_getElem_cons hi
 rw [e] at hD
 have hcK : ∀ a ∈ K, a.length = 46 := fun a ha => cf_len (hc a (by rw [hD]; exact List.mem_append_left _ ha))
 have hy := cf_len (hc L[i.toNat] (by rw [hD]; exact List.mem_append_right _ (List.mem_cons_self ..)))
 refine ⟨?_, ?_, ?_⟩
 ·have := splice_flat (k := 46) (B := L.drop (i + 1).toNat) hcK hy (cf_len hx)
  rw [← hD] at this
  rw [Nat.zero_add, show i.toNat = K.length by omega, this, List.append_assoc]
  rfl
 ·intro a ha
  rw [List.append_assoc] at ha
  rcases List.mem_append.1 ha with ha | ha
  ·exact hc a (by rw [hD]; exact List.mem_append_left _ ha)
  ·rcases List.mem_append.1 ha with ha | ha
   ·rw [List.mem_singleton.1 ha]; exact hx
   ·exact hc a (by rw [hD]; exact List.mem_append_right _ (List.mem_cons_of_mem _ ha))
 ·simp only [List.length_append, List.length_cons, List.length_nil, List.length_drop]
  omega
theorem del_end {L D : List (List Value)} {w : List Int} {i : Int} (hc : cfs T.K43 D) (hD : D = keptL w L ++ L.drop i.toNat) (hK : ((keptL w L).length : Int) = i) (hl : D.length = L.length) :
  splice D.flatten (0 + i.toNat * 46) (zerosC Z43 (L.length - i.toNat)) = delD L w := by
 have hi : i.toNat = (keptL w L).length := by omega
 have hk : (keptL w L).length ≤ L.length := keptL_len
 have hcK : cfs T.K43 (keptL w L) := fun a ha => hc a (by rw [hD]; exact List.mem_append_left _ ha)
 unfold delD
 rw [hi, Nat.zero_add]
 have hf : (keptL w L).flatten.length = (keptL w L).length * 46 := cfs_len hcK
 have hDf : D.flatten.length = D.length * 46 := cfs_len hc
 refine splice_tail ?_ hf ?_
 ·have e : D.flatten = (keptL w L).flatten ++ (L.drop i.toNat).flatten := by rw [← List.flatten_append, ← hD]
  rw [e, ← hf, List.drop_left]
 ·rw [zerosC_len, hDf, hl, show Z43.length = 46 from rfl, ← Nat.add_mul, Nat.add_sub_cancel' hk]
theorem delD_free {L : List (List Value)} {w : List Int} (h : cfs T.K43 L) : (delD L w).all free1 = true := by
 unfold delD
 rw [List.all_append, cfs_free1 (keptL_cfs h), zerosC_all rfl]
 rfl
theorem delD_free0 {L : List (List Value)} {w : List Int} (h : cfs T.K43 L) : (delD L w).all free0 = true := by
 unfold delD
 rw [List.all_append, cfs_free0 (keptL_cfs h), zerosC_all rfl]
 rfl
theorem del_m {L : List (List Value)} {w : List Int} {s_w : Value} {c : Nat} (hb : L.length ≤ 1000) (h_L : cfs T.K43 L) (hw : w.length < 4611686018427387904) (hs_w : Sl 1 1 w.length s_w) (hc : L.length = 0 ∧ c = 0 ∨ 0 < L.length ∧ c = L.length + 46) : Meets Try.prog (.func 51) [.slice (some ⟨3, 0, none⟩) L.length c, .func (.func 53) ⟨[]⟩ ⟨[.pointer (some ⟨2, 0, none⟩)]⟩] ⟨Tr.ofList [.row L.flatten 0 BIG true L.flatten.length, .row (ints w) 1 BIG true (ints w).length, .row [s_w] 2 BIG false 1, .row L.flatten 3 BIG false L.flatten.length] 0 .leaf, 4, BIG⟩ (delV L w) ⟨Tr.ofList [.row L.flatten 0 BIG true L.flatten.length, .row (ints w) 1 BIG true (ints w).length, .row [s_w] 2 BIG false 1, .row (delD L w) 3 BIG false ((delD L w)).length] 0 .leaf, 4, 3⟩ := by
 have hP := Fits
 obtain ⟨F, hF⟩ : ∃ F, idxP (fun a => decide (wkr a ∈ w)) L = F := ⟨_, rfl⟩
 have hI := idxDel_m (c := c) hb h_L hw hs_w
 rw [hF] at hI
 have hC := tab_sound (tab_cons (con_atH Try.func36 rfl hI) (tab_cons (con_rel Try.func53 rfl fun _ _ _ hr => clos_m hw hr) tab_end))
 refine meets_of_triK hP Try.func51 rfl ?_
 refine q_start (sz := 42) rfl zo ?_
 refine q_heap zo ?_
 rcases idxP_split hF with ⟨rfl, hK⟩ | ⟨hF0, hF1, hK⟩
 ·skip
  refine k_seq ?_
  refine k_region hP hC ?_
  refine os (x_assign rfl (by rfl)) ?_
  refine o_done ?_
  refine e_seq ?_
  refine k_seq ?_
  refine k_region hP hC ?_
  refine os (x_move rfl zt) ?_
  refine os (x_move rfl zt) ?_
  refine o_call0 (wA_none rfl) rfl rfl rfl zv zd ?_
  refine ⟨_, _, (tab_hit.trans cAt_hit), ?_⟩
  refine os (x_assign rfl zt) ?_
  refine o_done ?_
  refine e_seq ?_
  refine k_seq ?_
  refine k_seq ?_
  refine k_region hP hC ?_
  refine os (x_move rfl zt) ?_
  refine os (x_bin (u := .bool true) rfl zt (by rfl) (by rw [b_eql]; rfl)) ?_
  refine o_done ?_
  refine e_seq ?_
  refine k_condT zt ?_
  refine k_seq ?_
  refine k_region hP hC ?_
  refine os (x_move rfl zt) ?_
  refine os (x_assign rfl zt) ?_
  refine o_done ?_
  refine e_seq ?_
  refine k_ret ?_
  refine e_seq_ret ?_
  rw [delV_none hK hc, delD_none hK]
  refine gives_mk (L := [0, 1, 2, 3]) (slots := [4]) (w := 3) (.inr rfl) zr (gcVs_cons zh (gcV_slice rfl) gcVs_nil) (gcH_cons (gcO_old (by rfl) zh) (gcH_cons (gcO_old (by rfl) zh) (gcH_cons (gcO_old (by rfl) zh) (gcH_cons (gcO_old (by rfl) zh) gcH_nil)))) zr (by simp only [Try.results51, resA, cst, mkE, Tr.get_set, reduceIte, Nat.reduceEqDiff, Nat.reduceAdd] <;> rfl) ?_
  rfl
 ·have hc2 : c = L.length + 46 := ow; subst hc2
  refine k_seq ?_
  refine k_region hP hC ?_
  refine os (x_assign rfl (by rfl)) ?_
  refine o_done ?_
  refine e_seq ?_
  refine k_seq ?_
  refine k_region hP hC ?_
  refine os (x_move rfl zt) ?_
  refine os (x_move rfl zt) ?_
  refine o_call0 (wA_none rfl) rfl rfl rfl zv zd ?_
  refine ⟨_, _, (tab_hit.trans cAt_hit), ?_⟩
  refine os (x_assign rfl zt) ?_
  refine o_done ?_
  refine e_seq ?_
  refine k_seq ?_
  refine k_seq ?_
  refine k_region hP hC ?_
  refine os (x_move rfl zt) ?_
  refine os (x_bin (u := .bool false) rfl zt (by rfl) (by rw [b_eql]; congr 2; exact decide_eq_false ow)) ?_
  refine o_done ?_
  refine e_seq ?_
  refine k_condF zt ?_
  refine k_skip ?_
  refine e_seq ?_
  refine k_seq ?_
  refine k_seq ?_
  refine k_region hP hC ?_
  refine os (x_move rfl zt) ?_
  refine os (x_bin rfl zt (by rfl) b_add) ?_
  refine os (x_assign rfl zt) ?_
  refine o_done ?_
  refine e_seq ?_
  refine k_block ?_
  refine k_loop (α := Int × Int × List (List Value)) (fun z => match z with | (i, j, D) => cst 42 [0, 1, 5, 6] [.slice (some ⟨3, 0, none⟩) L.length (L.length + 46), .func (.func 53) ⟨[]⟩ ⟨[.pointer (some ⟨2, 0, none⟩)]⟩, .int .i64 i, .int .i64 j] [.row L.flatten 0 BIG true L.flatten.length, .row (ints w) 1 BIG true (ints w).length, .row [s_w] 2 BIG false 1, .row D.flatten 3 BIG false (D.flatten).length] 3) (fun z => match z with | (i, j, D) => 0 ≤ i ∧ i < j ∧ j ≤ L.length ∧ ((keptL w (L.take j.toNat)).length : Int) = i ∧ D = keptL w (L.take j.toNat) ++ L.drop i.toNat ∧ cfs T.K43 D ∧ D.length = L.length) (fun z => match z with | (_, j, _) => (L.length - j).toNat) (F, IntKind.i64.wrap (F + 1), L) (to_mk (L := [0, 1, 2, 3]) (slots := [0, 1, 5, 6]) (w := 3) zr (gcVs_cons zh (gcV_slice rfl) (gcVs_cons zh (gcV_fn1 rfl) (gcVs_cons zh (gcV_free rfl) (gcVs_cons zh (gcV_free rfl) gcVs_nil)))) (gcH_cons (gcO_old (by rfl) zh) (gcH_cons (gcO_old (by rfl) zh) (gcH_cons (gcO_old (by rfl) zh) (gcH_cons (gcO_old (by rfl) zh) gcH_nil)))) zr) ?_ ?_
  ·show 0 ≤ F ∧ F < IntKind.i64.wrap (F + 1) ∧ IntKind.i64.wrap (F + 1) ≤ L.length ∧ _; rw [wr1 ow ow]; unfold keptL; rw [hK]; exact ⟨by omega, by omega, by omega, by rw [List.length_take]; omega, (List.take_append_drop _ _).symm, h_L, rfl⟩
  rintro ⟨i, j, D⟩ ⟨h0, h1, h2, hKi, hD, hcD, hDl⟩
  have hcD0 := hcD
  have hDf : D.flatten.length = L.length * 46 := by rw [← hDl]; exact cfs_len hcD
  refine k_cst zm zo zl ?_
  have hv : j < L.length → nth D j = nth L j := fun hj => del_nth hD hKi ow hj
  have hx : j < L.length → cf T.K43 (nth D j) = true := fun hj => cf_nth hcD ow ow
  refine k_seq ?_
  refine k_seq ?_
  refine k_region hP hC ?_
  refine os (x_move rfl zt) ?_
  refine os (x_move rfl zt) ?_
  refine os (x_len rfl rfl zv rfl Try.underlying23) ?_
  refine os (x_bin rfl zt zt b_lss) ?_
  refine o_done ?_
  refine e_seq ?_
  refine k_cond zt (fun g2 => ?_) (fun g2 => ?_)
  ·have p2 := g2; try simp only [d1, d2, d3, d4, d5, d6, d7, d8, d9] at p2
   refine k_skip ?_
   refine e_seq ?_
   refine k_seq ?_
   refine k_block ?_
   refine k_seq ?_
   refine k_region hP hC ?_
   refine os (x_move rfl zt) ?_
   refine os (x_move rfl zt) ?_
   refine os (x_index rfl zt zt Try.underlying23 T.s43 ow ow) ?_
   refine os (x_loadA rfl zt T.g43 T.s43 (l_elem (whole_row zh rfl) zs rfl ow ow)) ?_
   refine os (y_alloc rfl T.z43 rfl rfl) ?_
   refine o_stepN (wA_none rfl) rfl (y_storeA rfl zt zt T.s43 (cf_len (ks := T.K43) zc) zh rfl rfl (cf_oneC (ks := T.K43) zc)) ?_
   refine o_done ?_
   refine e_seq ?_
   refine k_seq ?_
   refine k_region hP hC ?_
   refine os (x_move rfl zt) ?_
   refine os (x_loadA rfl zt T.g43 T.s43 (l_boxAll (whole_row zh rfl) (by (first | assumption | (exact cf_nth zs ow ow))) rfl)) ?_
   refine o_callC (wA_none rfl) rfl rfl rfl zt zv zd ?_
   refine ⟨_, _, (tab_miss zd).trans (tab_hit.trans (R53_hit ⟨nth D j, s_w, rfl, hx ow, zh, zh, hs_w, Nat.le_of_ble_eq_true rfl, Nat.le_of_ble_eq_true rfl, rfl⟩)), ?_⟩
   refine os (x_not rfl zg) ?_
   refine o_done ?_
   refine e_seq ?_
   refine k_cond (by simp only [Tr.get_set, reduceIte, Nat.reduceEqDiff, Nat.reduceAdd, ev_tmp, g2] <;> rfl) (fun g5 => ?_) (fun g5 => ?_)
   ·have p5 := g5; try simp only [d1, d2, d3, d4, d5, d6, d7, d8, d9] at p5
    refine k_seq ?_
    refine k_region hP hC ?_
    refine os (x_move rfl zt) ?_
    refine os (x_move rfl zt) ?_
    refine os (x_loadA rfl zt T.g43 T.s43 (l_boxAll (whole_row zh rfl) (by (first | assumption | (exact cf_nth zs ow ow))) rfl)) ?_
    refine os (x_index rfl zt zt Try.underlying23 T.s43 ow ow) ?_
    refine o_stepN (wA_none rfl) rfl (y_storeAP rfl zt zt T.s43 (cf_len (ks := T.K43) (hx ow)) zh rfl (by rw [hDf]; omega) (cf_oneC (ks := T.K43) (hx ow)) (del_keep h0 hcD (hx ow) hD hKi h1 ow).1) ?_
    refine o_done ?_
    refine e_seq ?_
    refine k_region hP hC ?_
    refine os (x_move rfl zt) ?_
    refine os (x_bin rfl zt (by rfl) b_add) ?_
    refine os (x_assign rfl zt) ?_
    refine o_done ?_
    refine e_block ?_
    refine e_seq ?_
    refine k_region hP hC ?_
    refine os (x_move rfl zt) ?_
    refine os (x_bin rfl zt (by rfl) b_add) ?_
    refine os (x_assign rfl zt) ?_
    refine o_done ?_
    refine e_loop ?_
    have hg := g5
    have hcD : cfs T.K43 (keptL w (L.take j.toNat) ++ [nth D j] ++ L.drop (i + 1).toNat) := (del_keep h0 hcD (hx ow) hD hKi h1 ow).2.1
    have hkk : keptL w (L.take (j + 1).toNat) = keptL w (L.take j.toNat) ++ [nth D j] := by rw [hv ow]; exact filter_hit ow ow (by rw [← hv ow]; simpa using hg)
    refine ⟨(IntKind.i64.wrap (i + 1), IntKind.i64.wrap (j + 1), keptL w (L.take j.toNat) ++ [nth D j] ++ L.drop (i + 1).toNat), (to_mk (L := [0, 1, 2, 3]) (slots := [0, 1, 5, 6]) (w := 3) zr (gcVs_cons zh (gcV_slice rfl) (gcVs_cons zh (gcV_fn1 rfl) (gcVs_cons zh (gcV_free rfl) (gcVs_cons zh (gcV_free rfl) gcVs_nil)))) (gcH_cons (gcO_old (by rfl) zh) (gcH_cons (gcO_old (by rfl) zh) (gcH_cons (gcO_old (by rfl) zh) (gcH_cons (gcO_oldW (by rfl) zh (gcD_free (cfs_free1 hcD)) rfl) gcH_nil)))) zr), ?_, ?_⟩
    ·show 0 ≤ IntKind.i64.wrap (i + 1) ∧ IntKind.i64.wrap (i + 1) < IntKind.i64.wrap (j + 1) ∧ IntKind.i64.wrap (j + 1) ≤ L.length ∧ _; rw [wr1 ow ow, wr1 ow ow]; refine ⟨by omega, by omega, by omega, ?_, ?_, hcD, (del_keep h0 hcD0 (hx ow) hD hKi h1 ow).2.2⟩
     ·rw [hkk, List.length_append]; simp only [List.length_cons, List.length_nil]; omega
     ·rw [hkk]
    ·show (L.length - IntKind.i64.wrap (j + 1)).toNat < (L.length - j).toNat; rw [wr1 ow ow]; omega
   ·have p5 := g5; try simp only [d1, d2, d3, d4, d5, d6, d7, d8, d9] at p5
    refine k_skip ?_
    refine e_block ?_
    refine e_seq ?_
    refine k_region hP hC ?_
    refine os (x_move rfl zt) ?_
    refine os (x_bin rfl zt (by rfl) b_add) ?_
    refine os (x_assign rfl zt) ?_
    refine o_done ?_
    refine e_loop ?_
    have hg := g5
    have hkk : keptL w (L.take (j + 1).toNat) = keptL w (L.take j.toNat) := filter_skip ow ow (by rw [← hv ow]; simpa using hg)
    refine ⟨(i, IntKind.i64.wrap (j + 1), D), (to_mk (L := [0, 1, 2, 3]) (slots := [0, 1, 5, 6]) (w := 3) zr (gcVs_cons zh (gcV_slice rfl) (gcVs_cons zh (gcV_fn1 rfl) (gcVs_cons zh (gcV_free rfl) (gcVs_cons zh (gcV_free rfl) gcVs_nil)))) (gcH_cons (gcO_old (by rfl) zh) (gcH_cons (gcO_old (by rfl) zh) (gcH_cons (gcO_old (by rfl) zh) (gcH_cons (gcO_oldW (by rfl) zh (gcD_free (cfs_free1 hcD)) rfl) gcH_nil)))) zr), ?_, ?_⟩
    ·show 0 ≤ i ∧ i < IntKind.i64.wrap (j + 1) ∧ IntKind.i64.wrap (j + 1) ≤ L.length ∧ _; rw [wr1 ow ow]; exact ⟨by omega, by omega, by omega, by rw [hkk]; exact hKi, by rw [hkk]; exact hD, hcD, hDl⟩
    ·show (L.length - IntKind.i64.wrap (j + 1)).toNat < (L.length - j).toNat; rw [wr1 ow ow]; omega
  ·have p2 := g2; try simp only [d1, d2, d3, d4, d5, d6, d7, d8, d9] at p2
   refine k_exit ?_
   refine e_seq_exit ?_
   refine e_loop_exit ?_
   refine e_block_eq ?_
   refine e_seq ?_
   refine k_seq ?_
   refine k_region hP hC ?_
   refine os (x_move rfl zt) ?_
   refine os (x_move rfl zt) ?_
   refine os (y_sliceLo (sz := 46) rfl zt zt Try.underlying23 T.s43 zd ow ow) ?_
   refine o_stepN (wA_none rfl) rfl (y_clear rfl rfl zv rfl Try.underlying23 T.z43 rfl zd ow zh rfl (by rw [zerosC_len, hDf]; show 0 + i.toNat * 46 + (L.length - i.toNat) * 46 ≤ _; omega) rfl) ?_
   refine o_done ?_
   refine e_seq ?_
   refine k_seq ?_
   refine k_region hP hC ?_
   refine os (x_move rfl zt) ?_
   refine os (x_move rfl zt) ?_
   refine os (y_sliceHi (sz := 46) rfl zt zt Try.underlying23 T.s43 zd ow ow) ?_
   refine os (x_assign rfl zt) ?_
   refine o_done ?_
   refine e_seq ?_
   refine k_ret ?_
   have hj : j = L.length := by omega
   rw [hj, take_end ow] at hKi hD
   have hE := del_end hcD hD hKi hDl
   rw [← hE]
   unfold delV
   rw [if_neg ow, show (keptL w L).length = i.toNat by omega]
   refine gives_mk (L := [0, 1, 2, 3]) (slots := [4]) (w := 3) (.inr rfl) zr (gcVs_cons zh (gcV_slice rfl) gcVs_nil) (gcH_cons (gcO_old (by rfl) zh) (gcH_cons (gcO_old (by rfl) zh) (gcH_cons (gcO_old (by rfl) zh) (gcH_cons (gcO_oldW (by rfl) zh (gcD_free (by rw [hE]; exact delD_free h_L)) rfl) gcH_nil)))) zr (by simp only [Try.results51, resA, cst, mkE, Tr.get_set, reduceIte, Nat.reduceEqDiff, Nat.reduceAdd] <;> rfl) ?_
   rfl
theorem sl_cells {i k n : Nat} {s : Value} (h : Sl i k n s) : s.cells.toList = [s] := by
 obtain ⟨a, c, rfl⟩ := h.shape
 rfl
theorem x_makeFunc {P : Program} {call : Call'} {e : Tr Value} {h : AH} {o : Oper} {f : FuncId} {a b : Array Operand} {vs us : List Value} (ho : o.op = .makeFunc (.func f) a b) (ha : evs e a.toList = some vs) (hb : evs e b.toList = some us) : doOp P call e h o = some (.func (.func f) ⟨vs⟩ ⟨us⟩, h) := by
 rw [do_op (by rw [ho]; simp), ho]
 simp only [aop, ha, hb]
def cpN (L : List (List Value)) : Nat := if L.length = 0 then 0 else L.length + 46
theorem cpN_or {L : List (List Value)} : L.length = 0 ∧ cpN L = 0 ∨ 0 < L.length ∧ cpN L = L.length + 46 := by
 unfold cpN
 rcases Nat.eq_zero_or_pos L.length with h | h
 ·exact .inl ⟨h, if_pos h⟩
 ·exact .inr ⟨h, if_neg ow⟩
theorem clone_c1 {t : Tr AObj} {nx wr : Nat} {s_L : Value} {L : List (List Value)} (hr_L : Rd ⟨t, nx, wr⟩ 46 s_L L.length L.flatten) (h_L : cfs T.K43 L) (e : isNilS s_L = false) (hb : L.length ≤ 1000) :
  c_clone [s_L] ⟨t, nx, wr⟩ = some (.slice (some ⟨nx, 0, none⟩) L.length (cpN L), ⟨t.set nx (.row L.flatten nx BIG false L.flatten.length), nx + 1, wr⟩) := clone_c hr_L h_L e (by rw [ok_clone, decide_eq_true hb])
noncomputable def c_del (L : List (List Value)) (w : List Int) (s_w : Value) := cAt [.slice (some ⟨3, 0, none⟩) L.length (cpN L), .func (.func 53) ⟨[]⟩ ⟨[.pointer (some ⟨2, 0, none⟩)]⟩] ⟨(((Tr.leaf.set 0 (.row L.flatten 0 BIG true L.flatten.length)).set 1 (.row (ints w) 1 BIG true (ints w).length)).set 2 (.row [s_w] 2 BIG false 1)).set 3 (.row L.flatten 3 BIG false L.flatten.length), 4, BIG⟩ (delV L w) ⟨(((Tr.leaf.set 0 (.row L.flatten 0 BIG true L.flatten.length)).set 1 (.row (ints w) 1 BIG true (ints w).length)).set 2 (.row [s_w] 2 BIG false 1)).set 3 (.row (delD L w) 3 BIG false ((delD L w)).length), 4, 3⟩
theorem pkW : progOk Try.prog [41] = true := by kernel_rfl
theorem pkV : progOk Try.prog [36, 51, 52, 53] = true := by kernel_rfl
def ok_without (L : List (List Value)) (nl : Bool) (w : List Int) : Bool := decide (L.length ≤ 1000) && decide (w.length < 4611686018427387904)
def val_without (L : List (List Value)) (nl : Bool) (w : List Int) : Value := if nl then .slice none 0 0 else .slice (some ⟨2, 0, none⟩) (keptL w L).length (if L.length = 0 then 0 else (keptL w L).length + 46)
def new_without (L : List (List Value)) (nl : Bool) (w : List Int) : List (List Value) := if nl then [] else [delD L w]
def spec_without : Go.AM.Spec := fun us cs => match us, cs with
 | [s_L, s_w], [c_L, c_w] => if slOk 0 46 c_L s_L && isRows T.K43 c_L && slOk 1 1 c_w s_w && isInts c_w && ok_without (chunks 46 c_L) (isNilS s_L) (unints c_w) then some (val_without (chunks 46 c_L) (isNilS s_L) (unints c_w), new_without (chunks 46 c_L) (isNilS s_L) (unints c_w)) else none
 | _, _ => none
def c_without := flatC [.sl 46, .sl 1] spec_without
theorem without_m {s_L : Value} {s_w : Value} {L : List (List Value)} {nl : Bool} {w : List Int} (hs_L : Sl 0 46 L.length s_L) (h_L : cfs T.K43 L) (e_nl : isNilS s_L = nl) (hs_w : Sl 1 1 w.length s_w) (hok : ok_without L nl w = true) : Meets Try.prog (.func 41) [s_L, s_w] (cheap [L.flatten, ints w]) (val_without L nl w) (rheap [L.flatten, ints w] (new_without L nl w)) := by
 have hP := Fits
 have hC : CallSound Try.prog (tabOf []) := tab_sound tab_end
 simp only [ok_without, Bool.and_eq_true, decide_eq_true_eq] at hok
 obtain ⟨hb, hw⟩ := hok
 rcases hs_L with ⟨hsl, hn⟩ | hsl
 ·subst hsl
  have hL0 : L = [] := List.eq_nil_of_length_eq_zero hn
  subst hL0
  have hnl : nl = true := e_nl.symm
  subst hnl
  rcases hs_w with ⟨hsw, hw0⟩ | hsw
  ·subst hsw
   exact runR_meets hP pkW (callT_sound hP pkV hC 40) (n := 100) zr
  ·subst hsw
   exact runR_meets hP pkW (callT_sound hP pkV hC 40) (n := 100) zr
 subst hsl
 have hs_L : Sl 0 46 L.length (.slice (some ⟨0, 0, none⟩) L.length (L.length + 46)) := .inr rfl
 have hnl : nl = false := e_nl.symm
 subst hnl
 have hD := con_atH Try.func51 rfl (del_m (c := cpN L) hb h_L hw hs_w cpN_or)
 have hC : CallSound Try.prog (tabOf [(52, c_clone), (51, c_del L w s_w)]) := tab_sound (tab_cons con_clone (tab_cons hD tab_end))
 refine meets_start (sz := 9) hP Try.func41 rfl rfl zo (by simp only [Tr.ofList, roRows, Nat.zero_add, Nat.reduceAdd] <;> rfl) zl ?_
 refine k_seq ?_
 refine k_region hP hC ?_
 refine os (y_box1 rfl zt (sl_cells hs_w)) ?_
 refine os (x_assign rfl (by rfl)) ?_
 refine o_done ?_
 refine e_seq ?_
 refine k_seq ?_
 refine k_region hP hC ?_
 refine os (x_move rfl zt) ?_
 refine o_call0 (wA_none rfl) rfl rfl rfl zv zd ?_
 refine ⟨_, _, (tab_hit.trans (clone_c1 (L := L) (rd_sl hs_L zd (whole_row zh rfl) (cfs_len h_L).symm (cfs_free0 h_L)) h_L rfl hb)), ?_⟩
 refine os (x_makeFunc rfl zv zv) ?_
 refine o_call0 (wA_none rfl) rfl rfl rfl zv zd ?_
 refine ⟨_, _, ((tab_miss zd).trans (tab_hit.trans (by unfold c_del; exact cAt_hit))), ?_⟩
 refine os (x_assign rfl zt) ?_
 refine o_done ?_
 refine e_seq ?_
 refine k_ret ?_
 unfold val_without new_without
 simp only [Bool.false_eq_true, if_false]
 refine gives_mk (L := [0, 1, 3]) (slots := [4]) (w := 2) (.inr rfl) zr (gcVs_cons zh (gcV_slice rfl) gcVs_nil) (gcH_cons (gcO_old (by rfl) zh) (gcH_cons (gcO_old (by rfl) zh) (gcH_cons (gcO_row (by rfl) zh (gcD_free (delD_free h_L))) gcH_nil))) zr (by simp only [Try.results41, resA, cst, mkE, Tr.get_set, reduceIte, Nat.reduceEqDiff, Nat.reduceAdd] <;> rfl) ?_
 rfl
theorem con_without : Con Try.prog 41 c_without := con_flat Try.func41 rfl fun us cs v new h => by
 unfold spec_without at h
 split at h
 case h_2 => cases h
 rename_i s_L s_w c_L c_w
 split at h
 case isFalse => cases h
 rename_i hc
 try simp only [Bool.and_eq_true] at hc
 obtain ⟨⟨⟨⟨q_L, r_L⟩, q_w⟩, r_w⟩, hok⟩ := hc
 cases h
 obtain ⟨h_L, e_L⟩ := isRows_cfs zd r_L
 have hs_L := slOk_sl (n := (chunks 46 c_L).length) q_L zd (rows_len (ks := T.K43) zd r_L)
 have e_w := ints_unints r_w
 have hs_w := slOk_sl (n := (unints c_w).length) q_w zd (by rw [← ints_len, e_w, Nat.mul_one])
 have key := without_m hs_L h_L rfl hs_w hok
 have hrows : [(chunks T.K43.length c_L).flatten, ints (unints c_w)] = [c_L, c_w] := by rw [e_L, e_w]
 rw [← hrows]
 exact key
theorem without_c {H : AH} {s_L : Value} {s_w : Value} {L : List (List Value)} {nl : Bool} {w : List Int} (hr_L : Rd H 46 s_L L.length L.flatten) (h_L : cfs T.K43 L) (e_nl : isNilS s_L = nl) (hr_w : Rd H 1 s_w w.length (ints w)) (hok : ok_without L nl w = true) : c_without [s_L, s_w] H = some (if nl then .slice none 0 0 else .slice (some ⟨H.next, 0, none⟩) (keptL w L).length (if L.length = 0 then 0 else (keptL w L).length + 46), addRows H (if nl then [] else [delD L w])) := by
 obtain ⟨u_L, a_L, b_L⟩ := hr_L 0
 obtain ⟨u_w, a_w, b_w⟩ := hr_w 1
 have k_L := isRows_flat zd h_L
 have k2_L : chunks 46 L.flatten = L := k_L.2
 exact flatC_at (v := val_without L nl w) (new := new_without L nl w) (cl_sl a_L (cl_sl a_w cl_nil)) (by simp only [spec_without, sl_slOk b_L (cfs_len h_L), k_L.1, k2_L, (canonS_nil a_L).trans e_nl, sl_slOk b_w (by rw [ints_len, Nat.mul_one]), isInts_ints, unints_ints, hok, Bool.and_self, if_true]) (by unfold new_without; split; rfl; simp only [List.all_cons, List.all_nil, Bool.and_true]; exact delD_free0 h_L) (by unfold val_without; split; exact gcV_free rfl; exact gcV_slice shp_k)
theorem without_c0 {t : Tr AObj} {nx wr : Nat} {s_L s_w : Value} {L : List (List Value)} {w : List Int} (hr_L : Rd ⟨t, nx, wr⟩ 46 s_L L.length L.flatten) (h_L : cfs T.K43 L) (e : isNilS s_L = true) (hr_w : Rd ⟨t, nx, wr⟩ 1 s_w w.length (ints w)) (hb : L.length ≤ 1000) (hw : w.length < 4611686018427387904) :
  c_without [s_L, s_w] ⟨t, nx, wr⟩ = some (.slice none 0 0, ⟨t, nx, wr⟩) := without_c hr_L h_L e hr_w (by rw [ok_without, Bool.and_eq_true, decide_eq_true_eq, decide_eq_true_eq]; exact ⟨hb, hw⟩)
theorem without_c1 {t : Tr AObj} {nx wr : Nat} {s_L s_w : Value} {L : List (List Value)} {w : List Int} (hr_L : Rd ⟨t, nx, wr⟩ 46 s_L L.length L.flatten) (h_L : cfs T.K43 L) (e : isNilS s_L = false) (hr_w : Rd ⟨t, nx, wr⟩ 1 s_w w.length (ints w)) (hb : L.length ≤ 1000) (hw : w.length < 4611686018427387904) :
  c_without [s_L, s_w] ⟨t, nx, wr⟩ = some (.slice (some ⟨nx, 0, none⟩) (keptL w L).length (if L.length = 0 then 0 else (keptL w L).length + 46), ⟨t.set nx (.row (delD L w) nx BIG false (delD L w).length), nx + 1, wr⟩) := without_c hr_L h_L e hr_w (by rw [ok_without, Bool.and_eq_true, decide_eq_true_eq, decide_eq_true_eq]; exact ⟨hb, hw⟩)
def ok_kept (L : List (List Value)) (nl : Bool) (w : List Int) (a : List Int) : Bool := decide (L.length ≤ 1000) && decide (w.length < 4611686018427387904)
def val_kept (L : List (List Value)) (nl : Bool) (w : List Int) (a : List Int) : Value := if nl then .slice none 0 0 else .slice (some ⟨3, 0, none⟩) (keptL w L).length (if L.length = 0 then 0 else (keptL w L).length + 46)
def new_kept (L : List (List Value)) (nl : Bool) (w : List Int) (a : List Int) : List (List Value) := if nl then [] else [delD L w]
def spec_kept : Go.AM.Spec := fun us cs => match us, cs with
 | [s_L, .agg ⟨[s_w, s_a]⟩], [c_L, c_w, c_a] => if slOk 0 46 c_L s_L && isRows T.K43 c_L && slOk 1 1 c_w s_w && isInts c_w && slOk 2 1 c_a s_a && isInts c_a && ok_kept (chunks 46 c_L) (isNilS s_L) (unints c_w) (unints c_a) then some (val_kept (chunks 46 c_L) (isNilS s_L) (unints c_w) (unints c_a), new_kept (chunks 46 c_L) (isNilS s_L) (unints c_w) (unints c_a)) else none
 | _, _ => none
def c_kept := flatC [.sl 46, .ag [1, 1]] spec_kept
theorem kept_m {s_L : Value} {s_w : Value} {s_a : Value} {L : List (List Value)} {nl : Bool} {w : List Int} {a : List Int} (hs_L : Sl 0 46 L.length s_L) (h_L : cfs T.K43 L) (e_nl : isNilS s_L = nl) (hs_w : Sl 1 1 w.length s_w) (hs_a : Sl 2 1 a.length s_a) (hok : ok_kept L nl w a = true) : Meets Try.prog (.func 28) [s_L, .agg ⟨[s_w, s_a]⟩] (cheap [L.flatten, ints w, ints a]) (val_kept L nl w a) (rheap [L.flatten, ints w, ints a] (new_kept L nl w a)) := by
 have hP := Fits
 have hC : CallSound Try.prog (tabOf [(41, c_without)]) := tab_sound (tab_cons con_without tab_end)
 simp only [ok_kept, Bool.and_eq_true, decide_eq_true_eq] at hok
 obtain ⟨hb, hw⟩ := hok
 refine meets_start (sz := 9) hP Try.func28 rfl rfl zo (by simp only [Tr.ofList, roRows, Nat.zero_add, Nat.reduceAdd] <;> rfl) zl ?_
 cases nl
 ·skip
  refine k_seq ?_
  refine k_region hP hC ?_
  refine os (y_boxA rfl zt) ?_
  refine os (x_assign rfl (by rfl)) ?_
  refine o_done ?_
  refine e_seq ?_
  refine k_seq ?_
  refine k_region hP hC ?_
  refine os (x_move rfl zt) ?_
  refine os (x_field (off' := 0) rfl zt Try.underlying56 rfl T.s22 rfl) ?_
  refine os (x_load1 rfl zt T.g22 (by first | exact l_boxI (whole_row zh rfl) (by (first | assumption | (exact cf_nth zs ow ow))) rfl | exact l_boxS (whole_row zh rfl) (by (first | assumption | (exact cf_nth zs ow ow))) rfl | (simp only [loadC, AH.fam, Tr.get_set, reduceIte, Nat.reduceEqDiff, Nat.reduceAdd, Fam.rb, List.drop_zero, List.drop_succ_cons, List.take_succ_cons, List.take_zero, List.length_cons, List.length_nil, Nat.zero_le, Nat.reduceLeDiff, and_self, true_and] <;> rfl))) ?_
  refine o_call0 (wA_none rfl) rfl rfl rfl zv zd ?_
  refine ⟨_, _, (tab_hit.trans (without_c1 (L := L) (w := w) (rd_sl hs_L zd (whole_row zh rfl) (cfs_len h_L).symm (cfs_free0 h_L)) h_L e_nl (rd_sl hs_w zd (whole_row zh rfl) (by rw [ints_len, Nat.mul_one]) (ints_free0 _)) hb hw)), ?_⟩
  refine os (x_assign rfl zt) ?_
  refine o_done ?_
  refine e_seq ?_
  refine k_ret ?_
  unfold val_kept new_kept
  simp only [Bool.false_eq_true, if_false]
  refine gives_mk (L := [0, 1, 2, 4]) (slots := [4]) (w := 3) (.inr rfl) zr (gcVs_cons zh (gcV_slice rfl) gcVs_nil) (gcH_cons (gcO_old (by rfl) zh) (gcH_cons (gcO_old (by rfl) zh) (gcH_cons (gcO_old (by rfl) zh) (gcH_cons (gcO_row (by rfl) zh (gcD_free (delD_free h_L))) gcH_nil)))) zr (by simp only [Try.results28, resA, cst, mkE, Tr.get_set, reduceIte, Nat.reduceEqDiff, Nat.reduceAdd] <;> rfl) ?_
  rfl
 ·skip
  refine k_seq ?_
  refine k_region hP hC ?_
  refine os (y_boxA rfl zt) ?_
  refine os (x_assign rfl (by rfl)) ?_
  refine o_done ?_
  refine e_seq ?_
  refine k_seq ?_
  refine k_region hP hC ?_
  refine os (x_move rfl zt) ?_
  refine os (x_field (off' := 0) rfl zt Try.underlying56 rfl T.s22 rfl) ?_
  refine os (x_load1 rfl zt T.g22 (by first | exact l_boxI (whole_row zh rfl) (by (first | assumption | (exact cf_nth zs ow ow))) rfl | exact l_boxS (whole_row zh rfl) (by (first | assumption | (exact cf_nth zs ow ow))) rfl | (simp only [loadC, AH.fam, Tr.get_set, reduceIte, Nat.reduceEqDiff, Nat.reduceAdd, Fam.rb, List.drop_zero, List.drop_succ_cons, List.take_succ_cons, List.take_zero, List.length_cons, List.length_nil, Nat.zero_le, Nat.reduceLeDiff, and_self, true_and] <;> rfl))) ?_
  refine o_call0 (wA_none rfl) rfl rfl rfl zv zd ?_
  refine ⟨_, _, (tab_hit.trans (without_c0 (L := L) (w := w) (rd_sl hs_L zd (whole_row zh rfl) (cfs_len h_L).symm (cfs_free0 h_L)) h_L e_nl (rd_sl hs_w zd (whole_row zh rfl) (by rw [ints_len, Nat.mul_one]) (ints_free0 _)) hb hw)), ?_⟩
  refine os (x_assign rfl zt) ?_
  refine o_done ?_
  refine e_seq ?_
  refine k_ret ?_
  unfold val_kept new_kept
  simp only [if_true]
  refine gives_mk (L := [0, 1, 2]) (slots := [4]) (w := 3) (.inr rfl) zr (gcVs_cons zh (gcV_free rfl) gcVs_nil) (gcH_cons (gcO_old (by rfl) zh) (gcH_cons (gcO_old (by rfl) zh) (gcH_cons (gcO_old (by rfl) zh) gcH_nil))) zr (by simp only [Try.results28, resA, cst, mkE, Tr.get_set, reduceIte, Nat.reduceEqDiff, Nat.reduceAdd] <;> rfl) ?_
  rfl
theorem con_kept : Con Try.prog 28 c_kept := con_flat Try.func28 rfl fun us cs v new h => by
 unfold spec_kept at h
 split at h
 case h_2 => cases h
 rename_i s_L s_w s_a c_L c_w c_a
 split at h
 case isFalse => cases h
 rename_i hc
 try simp only [Bool.and_eq_true] at hc
 obtain ⟨⟨⟨⟨⟨⟨q_L, r_L⟩, q_w⟩, r_w⟩, q_a⟩, r_a⟩, hok⟩ := hc
 cases h
 obtain ⟨h_L, e_L⟩ := isRows_cfs zd r_L
 have hs_L := slOk_sl (n := (chunks 46 c_L).length) q_L zd (rows_len (ks := T.K43) zd r_L)
 have e_w := ints_unints r_w
 have hs_w := slOk_sl (n := (unints c_w).length) q_w zd (by rw [← ints_len, e_w, Nat.mul_one])
 have e_a := ints_unints r_a
 have hs_a := slOk_sl (n := (unints c_a).length) q_a zd (by rw [← ints_len, e_a, Nat.mul_one])
 have key := kept_m hs_L h_L rfl hs_w hs_a hok
 have hrows : [(chunks T.K43.length c_L).flatten, ints (unints c_w), ints (unints c_a)] = [c_L, c_w, c_a] := by rw [e_L, e_w, e_a]
 rw [← hrows]
 exact key
theorem kept_c {H : AH} {s_L : Value} {s_w : Value} {s_a : Value} {L : List (List Value)} {nl : Bool} {w : List Int} {a : List Int} (hr_L : Rd H 46 s_L L.length L.flatten) (h_L : cfs T.K43 L) (e_nl : isNilS s_L = nl) (hr_w : Rd H 1 s_w w.length (ints w)) (hr_a : Rd H 1 s_a a.length (ints a)) (hok : ok_kept L nl w a = true) : c_kept [s_L, .agg ⟨[s_w, s_a]⟩] H = some (if nl then .slice none 0 0 else .slice (some ⟨H.next, 0, none⟩) (keptL w L).length (if L.length = 0 then 0 else (keptL w L).length + 46), addRows H (if nl then [] else [delD L w])) := by
 obtain ⟨u_L, a_L, b_L⟩ := hr_L 0
 obtain ⟨u_w, a_w, b_w⟩ := hr_w 1
 obtain ⟨u_a, a_a, b_a⟩ := hr_a 2
 have k_L := isRows_flat zd h_L
 have k2_L : chunks 46 L.flatten = L := k_L.2
 exact flatC_at (v := val_kept L nl w a) (new := new_kept L nl w a) (cl_sl a_L (cl_ag2 a_w a_a cl_nil)) (by simp only [spec_kept, sl_slOk b_L (cfs_len h_L), k_L.1, k2_L, (canonS_nil a_L).trans e_nl, sl_slOk b_w (by rw [ints_len, Nat.mul_one]), isInts_ints, unints_ints, sl_slOk b_a (by rw [ints_len, Nat.mul_one]), hok, Bool.and_self, if_true]) (by unfold new_kept; split; rfl; simp only [List.all_cons, List.all_nil, Bool.and_true]; exact delD_free0 h_L) (by unfold val_kept; split; exact gcV_free rfl; exact gcV_slice shp_k)
end Go.Proofs.Ytohhcnehcjpekaa
