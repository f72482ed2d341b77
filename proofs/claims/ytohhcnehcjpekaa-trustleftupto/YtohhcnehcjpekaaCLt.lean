/-
  The law TrustLeft: her walk.
-/
import Derived.Test.YtohhcnehcjpekaaCLp
import Derived.Test.YtohhcnehcjpekaaCLv
import Derived.Test.YtohhcnehcjpekaaCA3
namespace Go.Proofs.Ytohhcnehcjpekaa
open Go.AM
set_option maxRecDepth 100000
set_option maxHeartbeats 1000000
set_option linter.unusedSimpArgs false
set_option linter.unusedVariables false

theorem sl_one2 {i k n i' k' n' : Nat} {s s' : Value} (h : Sl i k n s) (h' : Sl i' k' n' s') : [s, s'].all oneC = true := by
  obtain ⟨a, c, rfl⟩ := h.shape
  obtain ⟨a', c', rfl⟩ := h'.shape
  rfl
theorem mout0 {H : AH} {n m k k' b c : Nat} {d1 d2 : List Value} (h : n = 0) (h' : m = 0) : some (Value.tuple ⟨[outV b k n, outV c k' m]⟩, addRows H (outN n d1 ++ outN m d2)) = some (.tuple ⟨[.slice none 0 0, .slice none 0 0]⟩, H) := by
  subst h'; subst h; rfl
theorem mout1 {n m k k' : Nat} {d1 d2 : List Value} {t : Tr AObj} {nx wr : Nat} (h : 0 < n) (h' : 0 < m) : some (Value.tuple ⟨[outV nx k n, outV (nx + 1) k' m]⟩, addRows ⟨t, nx, wr⟩ (outN n d1 ++ outN m d2)) =
    some (.tuple ⟨[.slice (some ⟨nx, 0, none⟩) n (n + k), .slice (some ⟨nx + 1, 0, none⟩) m (m + k')]⟩, ⟨(t.set nx (.row d1 nx BIG false d1.length)).set (nx + 1) (.row d2 (nx + 1) BIG false d2.length), nx + 1 + 1, wr⟩) := by
  rw [outV_ne (by omega), outV_ne (by omega), outN_ne (by omega), outN_ne (by omega)]; rfl
theorem made_c0 {H : AH} {s_l : Value} {l : List Int} {most bits : Int} {A R : List (List Value)} (hA : A = mkA l bits (min (l.length : Int) most)) (hR : R = mkR l (min (l.length : Int) most)) (hr : Rd H 1 s_l l.length (ints l)) (hok : ok_made l most bits = true) (h : A.length = 0) (h' : R.length = 0) :
    c_made [s_l, .int .i64 most, .int .i64 bits] H = some (.tuple ⟨[.slice none 0 0, .slice none 0 0]⟩, H) := by
  subst hA; subst hR
  exact (made_c hr hok).trans (mout0 h h')
theorem made_c1 {t : Tr AObj} {nx wr : Nat} {s_l : Value} {l : List Int} {most bits : Int} {A R : List (List Value)} (hA : A = mkA l bits (min (l.length : Int) most)) (hR : R = mkR l (min (l.length : Int) most)) (hr : Rd ⟨t, nx, wr⟩ 1 s_l l.length (ints l)) (hok : ok_made l most bits = true) (h : 0 < A.length) (h' : 0 < R.length) :
    c_made [s_l, .int .i64 most, .int .i64 bits] ⟨t, nx, wr⟩ = some (.tuple ⟨[.slice (some ⟨nx, 0, none⟩) A.length (A.length + 46), .slice (some ⟨nx + 1, 0, none⟩) R.length (R.length + 22)]⟩, ⟨(t.set nx (.row A.flatten nx BIG false A.flatten.length)).set (nx + 1) (.row R.flatten (nx + 1) BIG false R.flatten.length), nx + 1 + 1, wr⟩) := by
  subst hA; subst hR
  exact (made_c hr hok).trans (mout1 h h')
theorem judge_c0 {H : AH} {s_L s_R : Value} {L R : List (List Value)} (hr_L : Rd H 46 s_L L.length L.flatten) (h_L : cfs T.K43 L) (hr_R : Rd H 22 s_R R.length R.flatten) (h_R : cfs T.K41 R) (hb : L.length ≤ 1000) (hE : judgeE L R = 0) (hW : (judgeW L R).length = 0) :
    c_judge [s_L, s_R] H = some (.tuple ⟨[.agg ⟨[.slice none 0 0, .slice none 0 0]⟩, .int .i64 0]⟩, H) := by
  have q := judge_c hr_L h_L hr_R h_R (by rw [ok_judge, decide_eq_true hb])
  rw [hE] at q
  exact q.trans (jout0 hW judge_len)
theorem judge_c1 {t : Tr AObj} {nx wr : Nat} {s_L s_R : Value} {L R : List (List Value)} {W AA : List Int} (hWd : W = judgeW L R) (hAAd : AA = judgeA L R) (hr_L : Rd ⟨t, nx, wr⟩ 46 s_L L.length L.flatten) (h_L : cfs T.K43 L) (hr_R : Rd ⟨t, nx, wr⟩ 22 s_R R.length R.flatten) (h_R : cfs T.K41 R) (hb : L.length ≤ 1000) (hE : judgeE L R = 0) (hW : 0 < W.length) :
    c_judge [s_L, s_R] ⟨t, nx, wr⟩ = some (.tuple ⟨[.agg ⟨[.slice (some ⟨nx, 0, none⟩) W.length (W.length + 1), .slice (some ⟨nx + 1, 0, none⟩) AA.length (AA.length + 1)]⟩, .int .i64 0]⟩, ⟨(t.set nx (.row (ints W) nx BIG false (ints W).length)).set (nx + 1) (.row (ints AA) (nx + 1) BIG false (ints AA).length), nx + 1 + 1, wr⟩) := by
  have q := judge_c hr_L h_L hr_R h_R (by rw [ok_judge, decide_eq_true hb])
  subst hWd; subst hAAd
  rw [hE] at q
  exact q.trans (jout1 hW judge_len)
theorem wrong33_cF {H : AH} {x : List Value} (h_x : cf T.K43 x = true) (hn : inR (intAt (askC x) 20)) (h : wrongB x = false) : c_wrong33 [.agg ⟨x⟩] H = some (.bool false, H) := by
  have q := wrong33_c (H := H) h_x (by rw [ok_wrong33]; exact decide_eq_true hn)
  rw [h] at q
  exact q
theorem in_cF {H : AH} {s_l : Value} {l : List Int} {n : Int} (hr : Rd H 1 s_l l.length (ints l)) (hb : l.length < 4611686018427387904) (h : ¬ n ∈ l) : c_in [s_l, .int .i64 n] H = some (.bool false, H) := by
  have q := in_c (n := n) hr (by rw [ok_in, decide_eq_true hb])
  rw [decide_eq_false h] at q
  exact q
theorem check_cZ {H : AH} {s_L s_R s_w s_a : Value} {L R : List (List Value)} {w a : List Int} (hr_L : Rd H 46 s_L L.length L.flatten) (h_L : cfs T.K43 L) (hr_R : Rd H 22 s_R R.length R.flatten) (h_R : cfs T.K41 R) (hr_w : Rd H 1 s_w w.length (ints w)) (hr_a : Rd H 1 s_a a.length (ints a)) (hok : ok_check L R w a = true) (h : checkE L R w a = 0) :
    c_check [s_L, s_R, .agg ⟨[s_w, s_a]⟩] H = some (.int .i64 0, H) := by
  have q := check_c hr_L h_L hr_R h_R hr_w hr_a hok
  rw [h] at q
  exact q
theorem same01_cT {H : AH} {s_l s_m : Value} {l m : List Int} (hr_l : Rd H 1 s_l l.length (ints l)) (hr_m : Rd H 1 s_m m.length (ints m)) (hb : l.length < 4611686018427387904) (h : l = m) : c_same01 [s_l, s_m] H = some (.bool true, H) := by
  have q := same01_c hr_l hr_m (by rw [ok_same01, decide_eq_true hb])
  rw [decide_eq_true h] at q
  exact q
theorem kept_c0 {t : Tr AObj} {nx wr : Nat} {s_w s_a : Value} {w a : List Int} (hr_w : Rd ⟨t, nx, wr⟩ 1 s_w w.length (ints w)) (hr_a : Rd ⟨t, nx, wr⟩ 1 s_a a.length (ints a)) (hw : w.length < 4611686018427387904) :
    c_kept [.slice none 0 0, .agg ⟨[s_w, s_a]⟩] ⟨t, nx, wr⟩ = some (.slice none 0 0, ⟨t, nx, wr⟩) := kept_c (L := []) (nl := true) rd_nil cfs_nil rfl hr_w hr_a (by rw [ok_kept, Bool.and_eq_true, decide_eq_true_eq, decide_eq_true_eq]; exact ⟨Nat.zero_le _, hw⟩)
theorem kept_c1 {t : Tr AObj} {nx wr : Nat} {s_L s_w s_a : Value} {L : List (List Value)} {w a : List Int} (hr_L : Rd ⟨t, nx, wr⟩ 46 s_L L.length L.flatten) (h_L : cfs T.K43 L) (e : isNilS s_L = false) (hr_w : Rd ⟨t, nx, wr⟩ 1 s_w w.length (ints w)) (hr_a : Rd ⟨t, nx, wr⟩ 1 s_a a.length (ints a)) (hb : L.length ≤ 1000) (h0 : 0 < L.length) (hw : w.length < 4611686018427387904) :
    c_kept [s_L, .agg ⟨[s_w, s_a]⟩] ⟨t, nx, wr⟩ = some (.slice (some ⟨nx, 0, none⟩) (keptL w L).length ((keptL w L).length + 46), ⟨t.set nx (.row (keptZ L w).flatten nx BIG false (keptZ L w).flatten.length), nx + 1, wr⟩) := by
  have q := kept_c hr_L h_L e hr_w hr_a (by rw [ok_kept, Bool.and_eq_true, decide_eq_true_eq, decide_eq_true_eq]; exact ⟨hb, hw⟩)
  rw [if_neg (by omega : ¬ L.length = 0), delD_flat] at q
  exact q

def ok_left (l : List Int) (bits : Int) (w : List Int) (a : List Int) : Bool := decide (inR bits) && decide (l.all (fun n => decide (inR n)) = true) && decide (l.length < 4611686018427387904) && decide (w.length < 4611686018427387904) && decide (a.length < 4611686018427387904)
def val_left (l : List Int) (bits : Int) (w : List Int) (a : List Int) : Value := .bool true
def new_left (l : List Int) (bits : Int) (w : List Int) (a : List Int) : List (List Value) := []
def spec_left : Go.AM.Spec := fun us cs => match us, cs with
  | [s_l, .int .i64 bits, s_w, s_a], [c_l, c_w, c_a] => if slOk 0 1 c_l s_l && isInts c_l && slOk 1 1 c_w s_w && isInts c_w && slOk 2 1 c_a s_a && isInts c_a && ok_left (unints c_l) bits (unints c_w) (unints c_a) then some (val_left (unints c_l) bits (unints c_w) (unints c_a), new_left (unints c_l) bits (unints c_w) (unints c_a)) else none
  | _, _ => none
def c_left := flatC [.sl 1, .fr, .sl 1, .sl 1] spec_left
theorem left_m {s_l : Value} {s_w : Value} {s_a : Value} {l : List Int} {bits : Int} {w : List Int} {a : List Int} (hs_l : Sl 0 1 l.length s_l) (hs_w : Sl 1 1 w.length s_w) (hs_a : Sl 2 1 a.length s_a) (hok : ok_left l bits w a = true) : Meets Try.prog (.func 6) [s_l, .int .i64 bits, s_w, s_a] (cheap [ints l, ints w, ints a]) (val_left l bits w a) (rheap [ints l, ints w, ints a] (new_left l bits w a)) := by
  have hP := Fits
  have hC : CallSound Try.prog (tabOf [(8, c_made), (23, c_judge), (28, c_kept), (33, c_wrong33), (32, c_in), (26, c_check), (20, c_same01), (21, c_lives)]) := tab_sound (tab_cons con_made (tab_cons con_judge (tab_cons con_kept (tab_cons con_wrong33 (tab_cons con_in (tab_cons con_check (tab_cons con_same01 (tab_cons con_lives tab_end))))))))
  simp only [ok_left, Bool.and_eq_true, decide_eq_true_eq] at hok
  obtain ⟨⟨⟨⟨hbt, hl⟩, hlb⟩, hwb⟩, hab⟩ := hok
  obtain ⟨A, hA⟩ : ∃ A, A = mkA l bits (min (l.length : Int) 16) := ⟨_, rfl⟩
  obtain ⟨R, hR⟩ : ∃ R, R = mkR l (min (l.length : Int) 16) := ⟨_, rfl⟩
  obtain ⟨W, hWd⟩ : ∃ W, W = judgeW A R := ⟨_, rfl⟩
  obtain ⟨AA, hAAd⟩ : ∃ AA, AA = judgeA A R := ⟨_, rfl⟩
  have h_A : cfs T.K43 A := by rw [hA]; exact mkA_cfs
  have h_R : cfs T.K41 R := by rw [hR]; exact mkR_cfs
  have h_K : cfs T.K43 (keptZ A W) := keptZ_cfs h_A
  have hAl : A.length = R.length := by rw [hA, hR, mkA_len, mkR_len]
  have hA16 : A.length ≤ 16 := by rw [hA, mkA_len]; omega
  have hAb : A.length ≤ 1000 := by omega
  have hWA : W.length = AA.length := by rw [hWd, hAAd]; exact judge_len
  have hWl : W.length ≤ 6 * A.length := by rw [hWd]; exact judgeW_len
  have hWb : W.length < 4611686018427387904 := by omega
  have hE : judgeE A R = 0 := by rw [hA, hR]; exact made_E
  have hCk : checkE A R W AA = 0 := by rw [hWd, hAAd]; exact check_self hE
  have hAcc : checkE A R w a = 0 → w = W := fun h => by rw [hWd]; exact check_acc hE h
  have okk1 : ok_check A R W AA = true := by simp only [ok_check, Bool.and_eq_true, decide_eq_true_eq]; exact ⟨⟨hAb, hWb⟩, by omega⟩
  have okk2 : ok_check A R w a = true := by simp only [ok_check, Bool.and_eq_true, decide_eq_true_eq]; exact ⟨⟨hAb, hwb⟩, hab⟩
  have hKl : (keptL W A).length ≤ A.length := keptL_len
  have hKZ : (keptZ A W).length = A.length := keptZ_len
  have hL0 : ([] : List (List Value)).length = 0 := rfl
  refine meets_start (sz := 110) hP Try.func6 rfl rfl (by simp only [Tr.ofList, Nat.zero_add, Nat.reduceAdd] <;> rfl) (by simp only [Tr.ofList, roRows, Nat.zero_add, Nat.reduceAdd] <;> rfl) (by simp only [roRows, List.length_cons, List.length_nil, Nat.zero_add, Nat.reduceAdd] <;> rfl) ?_
  rcases Nat.eq_zero_or_pos A.length with hA0 | hA1
  · skip
    have hA2 : A = [] := List.eq_nil_of_length_eq_zero hA0
    have hR2 : R = [] := List.eq_nil_of_length_eq_zero (by omega)
    subst hA2; subst hR2
    have hW2 : W = [] := hWd
    have hAA2 : AA = [] := hAAd
    subst hW2; subst hAA2
    · skip
      skip
      · skip
        refine k_seq ?_
        refine k_region hP hC ?_
        refine os (x_assign rfl (by rfl)) ?_
        refine o_done ?_
        refine e_seq ?_
        refine k_seq ?_
        refine k_region hP hC ?_
        refine om ?_
        refine om ?_
        refine o_call0 (wA_none rfl) rfl rfl rfl rfl (by decide) ?_
        refine ⟨_, _, (tab_hit.trans (made_c0 hA hR (rd_sl hs_l (by decide) (whole_row rfl rfl) (by rw [ints_len, Nat.mul_one]) (ints_free0 _)) (by simp only [ok_made, Bool.and_eq_true, decide_eq_true_eq]; exact ⟨⟨⟨⟨by decide, by decide⟩, hbt⟩, hl⟩, hlb⟩) rfl rfl)), ?_⟩
        refine om ?_
        refine os (x_extract rfl rfl rfl) ?_
        refine os (x_extract rfl rfl rfl) ?_
        refine oa ?_
        refine oa ?_
        refine o_done ?_
        refine e_seq ?_
        refine k_seq ?_
        refine k_region hP hC ?_
        refine om ?_
        refine om ?_
        refine o_call0 (wA_none rfl) rfl rfl rfl rfl (by decide) ?_
        refine ⟨_, _, ((tab_miss (by decide)).trans (tab_hit.trans (judge_c0 (L := []) (R := []) (rd_nil (k := 46)) cfs_nil (rd_nil (k := 22)) cfs_nil (by decide) rfl rfl))), ?_⟩
        refine om ?_
        refine os (x_extract rfl rfl rfl) ?_
        refine os (x_extract rfl rfl rfl) ?_
        refine os (y_alloc rfl T.z56 rfl rfl) ?_
        refine o_stepN (wA_none rfl) rfl (y_storeA rfl rfl rfl T.s56 rfl rfl rfl rfl rfl) ?_
        refine oa ?_
        refine o_done ?_
        refine e_seq ?_
        refine k_seq ?_
        refine k_region hP hC ?_
        refine om ?_
        refine os (x_loadA' rfl rfl T.g56 T.s56 rfl rfl (Nat.le_of_ble_eq_true rfl) (by simp only [List.take_succ_cons, List.drop_succ_cons, List.take_zero, List.drop_zero, List.take_nil, List.drop_nil, List.cons_append, List.nil_append, List.append_nil, List.length_cons, List.length_nil, Nat.reduceAdd, Int.toNat_zero, Nat.zero_mul, Nat.add_zero, Nat.zero_add] <;> rfl)) ?_
        refine o_call0 (wA_none rfl) rfl rfl rfl rfl (by decide) ?_
        refine ⟨_, _, ((tab_miss (by decide)).trans ((tab_miss (by decide)).trans (tab_hit.trans (kept_c0 (w := []) (a := []) (rd_nil (k := 1)) (rd_nil (k := 1)) (by decide))))), ?_⟩
        refine oa ?_
        refine o_done ?_
        refine e_seq ?_
        refine k_seq ?_
        refine k_seq ?_
        refine k_region hP hC ?_
        refine os (x_assign rfl (by rfl)) ?_
        refine o_done ?_
        refine e_seq ?_
        refine k_block ?_
        refine k_loop (α := Int) (fun i => cst 110 [2, 3, 9, 10, 11, 12, 13, 14] [s_w, s_a, .slice none 0 0, .slice none 0 0, .pointer (some ⟨3, 0, none⟩), .int .i64 0, .slice none 0 0, .int .i64 i] [.row (ints l) 0 BIG true (ints l).length, .row (ints w) 1 BIG true (ints w).length, .row (ints a) 2 BIG true (ints a).length, .row [.slice none 0 0, .slice none 0 0] 3 BIG false 2] 3) (fun i => 0 ≤ i ∧ i ≤ (keptL ([] : List Int) ([] : List (List Value))).length) (fun i => ((keptL ([] : List Int) ([] : List (List Value))).length - i).toNat) 0 (to_mk (L := [0, 1, 2, 3]) (slots := [2, 3, 9, 10, 11, 12, 13, 14]) (w := 3) (by kernel_rfl) (gcVs_cons rfl (gcV_sl hs_w rfl) (gcVs_cons rfl (gcV_sl hs_a rfl) (gcVs_cons rfl gFre (gcVs_cons rfl gFre (gcVs_cons rfl (gcV_ptr rfl) (gcVs_cons rfl gFre (gcVs_cons rfl gFre (gcVs_cons rfl gFre gcVs_nil)))))))) (gcH_cons gOld (gcH_cons gOld (gcH_cons gOld (gcH_cons (gcO_rowE (by rfl) rfl (gcD_free rfl) rfl) gcH_nil)))) (by kernel_rfl)) ⟨by omega, by omega⟩ ?_
        rintro i ⟨h0, h1⟩
        refine k_cst rfl rfl rfl ?_
        refine k_seq ?_
        refine k_seq ?_
        refine k_region hP hC ?_
        refine om ?_
        refine om ?_
        refine os (x_len rfl rfl rfl rfl Try.underlying23) ?_
        refine os (x_bin (u := .bool false) rfl rfl rfl (by rw [b_lss]; congr 2; exact decide_eq_false (by omega))) ?_
        refine o_done ?_
        refine e_seq ?_
        refine k_condF rfl ?_
        refine k_exit ?_
        refine e_seq_exit ?_
        refine e_loop_exit ?_
        refine e_block_eq ?_
        refine e_seq ?_
        refine k_seq ?_
        refine k_region hP hC ?_
        refine os (x_assign rfl (by rfl)) ?_
        refine o_done ?_
        refine e_seq ?_
        refine k_seq ?_
        refine k_seq ?_
        refine k_region hP hC ?_
        refine os (x_assign rfl (by rfl)) ?_
        refine o_done ?_
        refine e_seq ?_
        refine k_block ?_
        refine k_loop (α := Int × Int) (fun z => match z with | (n, i) => cst 110 [2, 3, 9, 10, 11, 12, 13, 15, 16] [s_w, s_a, .slice none 0 0, .slice none 0 0, .pointer (some ⟨3, 0, none⟩), .int .i64 0, .slice none 0 0, .int .i64 n, .int .i64 i] [.row (ints l) 0 BIG true (ints l).length, .row (ints w) 1 BIG true (ints w).length, .row (ints a) 2 BIG true (ints a).length, .row [.slice none 0 0, .slice none 0 0] 3 BIG false 2] 3) (fun z => match z with | (n, i) => 0 ≤ i ∧ i ≤ ([] : List (List Value)).length ∧ 0 ≤ n ∧ (keptL ([] : List Int) (([] : List (List Value)).take i.toNat)).length + n = i) (fun z => match z with | (_, i) => (([] : List (List Value)).length - i).toNat) (0, 0) (to_mk (L := [0, 1, 2, 3]) (slots := [2, 3, 9, 10, 11, 12, 13, 15, 16]) (w := 3) (by kernel_rfl) (gcVs_cons rfl (gcV_sl hs_w rfl) (gcVs_cons rfl (gcV_sl hs_a rfl) (gcVs_cons rfl gFre (gcVs_cons rfl gFre (gcVs_cons rfl (gcV_ptr rfl) (gcVs_cons rfl gFre (gcVs_cons rfl gFre (gcVs_cons rfl gFre (gcVs_cons rfl gFre gcVs_nil))))))))) (gcH_cons gOld (gcH_cons gOld (gcH_cons gOld (gcH_cons (gcO_rowE (by rfl) rfl (gcD_free rfl) rfl) gcH_nil)))) (by kernel_rfl)) ⟨by omega, by omega, by omega, rfl⟩ ?_
        rintro ⟨n, i⟩ ⟨h0, h1, h2, h3⟩
        refine k_cst rfl rfl rfl ?_
        refine k_seq ?_
        refine k_seq ?_
        refine k_region hP hC ?_
        refine om ?_
        refine om ?_
        refine os (x_len rfl rfl rfl rfl Try.underlying23) ?_
        refine os (x_bin (u := .bool false) rfl rfl rfl (by rw [b_lss]; congr 2; exact decide_eq_false (by omega))) ?_
        refine o_done ?_
        refine e_seq ?_
        refine k_condF rfl ?_
        refine k_exit ?_
        refine e_seq_exit ?_
        refine e_loop_exit ?_
        refine e_block_eq ?_
        refine e_seq ?_
        refine k_seq ?_
        refine k_region hP hC ?_
        refine om ?_
        refine om ?_
        refine os (x_build (v := .agg ⟨[s_w, s_a]⟩) rfl rfl T.z56 rfl (by obtain ⟨ad, c, e⟩ := hs_w.shape; obtain ⟨ad2, c2, e2⟩ := hs_a.shape; rw [e, e2]; kernel_rfl)) ?_
        refine os (y_alloc rfl T.z56 rfl rfl) ?_
        refine o_stepN (wA_none rfl) rfl (y_storeA rfl (by simp only [Tr.get_set, reduceIte, Nat.reduceEqDiff, Nat.reduceAdd, ev_tmp] <;> rfl) (by simp only [Tr.get_set, reduceIte, Nat.reduceEqDiff, Nat.reduceAdd, ev_tmp] <;> rfl) T.s56 rfl (by simp only [Tr.get_set, reduceIte, Nat.reduceEqDiff, Nat.reduceAdd] <;> rfl) rfl rfl (sl_one2 hs_w hs_a)) ?_
        refine o_done ?_
        refine e_seq ?_
        refine k_seq ?_
        refine k_region hP hC ?_
        refine om ?_
        refine om ?_
        refine o_step (wA_none rfl) rfl (x_loadA' rfl (by simp only [Tr.get_set, reduceIte, Nat.reduceEqDiff, Nat.reduceAdd, ev_tmp] <;> rfl) T.g56 T.s56 (by simp only [Tr.get_set, reduceIte, Nat.reduceEqDiff, Nat.reduceAdd] <;> rfl) rfl (Nat.le_of_ble_eq_true rfl) rfl) (by decide) ?_
        refine o_call0 (wA_none rfl) rfl rfl rfl rfl (by decide) ?_
        refine ⟨_, _, ((tab_miss (by decide)).trans ((tab_miss (by decide)).trans ((tab_miss (by decide)).trans ((tab_miss (by decide)).trans ((tab_miss (by decide)).trans (tab_hit.trans (check_c (L := []) (R := []) (rd_nil (k := 46)) cfs_nil (rd_nil (k := 22)) cfs_nil (rd_sl hs_w (by decide) (whole_row (by simp only [Tr.get_set, reduceIte, Nat.reduceEqDiff, Nat.reduceAdd] <;> rfl) rfl) (by rw [ints_len, Nat.mul_one]) (ints_free0 _)) (rd_sl hs_a (by decide) (whole_row (by simp only [Tr.get_set, reduceIte, Nat.reduceEqDiff, Nat.reduceAdd] <;> rfl) rfl) (by rw [ints_len, Nat.mul_one]) (ints_free0 _)) okk2))))))), ?_⟩
        refine os (x_bin rfl rfl (by rfl) b_eql) ?_
        refine oa ?_
        refine o_done ?_
        refine e_seq ?_
        refine k_seq ?_
        refine k_region hP hC ?_
        refine om ?_
        refine os (x_bin (u := .bool true) rfl rfl (by rfl) (by rw [b_eql]; rfl)) ?_
        refine om ?_
        refine o_step (wA_on rfl rfl rfl) rfl (x_move rfl rfl) (by decide) ?_
        refine o_step (wA_on rfl rfl rfl) rfl (x_len rfl rfl rfl rfl Try.underlying23) (by decide) ?_
        refine o_step (wA_on rfl rfl rfl) rfl (x_move rfl rfl) (by decide) ?_
        refine o_step (wA_on rfl rfl rfl) rfl (x_bin rfl rfl rfl b_add) (by decide) ?_
        refine o_step (wA_on rfl rfl rfl) rfl (x_move rfl rfl) (by decide) ?_
        refine o_step (wA_on rfl rfl rfl) rfl (x_len rfl rfl rfl rfl Try.underlying23) (by decide) ?_
        refine o_step (wA_on rfl rfl rfl) rfl (x_bin (u := .bool true) rfl rfl rfl (by rw [b_eql]; congr 2; exact decide_eq_true (gone_end (by omega) h3 hAb))) (by decide) ?_
        refine os (x_pick rfl rfl (by simp only [if_true, if_false, Bool.false_eq_true, ev_tmp, Tr.get_set, reduceIte, Nat.reduceEqDiff, Nat.reduceAdd]; rfl)) ?_
        refine om ?_
        refine o_step (wA_on rfl rfl rfl) rfl (x_move rfl rfl) (by decide) ?_
        refine o_step (wA_on rfl rfl rfl) rfl (x_move rfl rfl) (by decide) ?_
        refine o_step (wA_on rfl rfl (by simp only [Tr.get_set, reduceIte, Nat.reduceEqDiff, Nat.reduceAdd] <;> rfl)) rfl (x_loadA' rfl (by simp only [Tr.get_set, reduceIte, Nat.reduceEqDiff, Nat.reduceAdd, ev_tmp] <;> rfl) T.g56 T.s56 (by simp only [Tr.get_set, reduceIte, Nat.reduceEqDiff, Nat.reduceAdd] <;> rfl) rfl (Nat.le_of_ble_eq_true rfl) rfl) (by decide) ?_
        refine o_call0 (wA_on rfl rfl rfl) rfl rfl rfl rfl (by decide) ?_
        refine ⟨_, _, ((tab_miss (by decide)).trans ((tab_miss (by decide)).trans ((tab_miss (by decide)).trans ((tab_miss (by decide)).trans ((tab_miss (by decide)).trans (tab_hit.trans (check_cZ (w := []) (a := []) (L := []) (R := []) (rd_nil (k := 46)) cfs_nil (rd_nil (k := 22)) cfs_nil (rd_nil (k := 1)) (rd_nil (k := 1)) okk1 hCk))))))), ?_⟩
        refine o_step (wA_on rfl rfl rfl) rfl (x_bin (u := .bool true) rfl rfl (by rfl) (by rw [b_eql]; rfl)) (by decide) ?_
        refine os (x_pick rfl rfl (by simp only [if_true, if_false, Bool.false_eq_true, ev_tmp, Tr.get_set, reduceIte, Nat.reduceEqDiff, Nat.reduceAdd]; rfl)) ?_
        refine om ?_
        refine o_step (wA_on rfl rfl rfl) rfl (x_move rfl rfl) (by decide) ?_
        refine o_step (wA_on rfl rfl rfl) rfl (x_not rfl rfl) (by decide) ?_
        refine o_step (wA_on rfl rfl rfl) rfl (x_move rfl rfl) (by decide) ?_
        refine o_guard rfl rfl rfl (fun g3 => ?_) (fun g3 => ?_)
        · have p3 := g3; try simp only [d1, d2, d3, d4, d5, d6, d7, d8, d9] at p3
          refine o_skip (wA_off rfl rfl (by simp only [Tr.get_set, reduceIte, Nat.reduceEqDiff, Nat.reduceAdd, g3] <;> rfl)) rfl (by decide) ?_
          refine o_skip (wA_off rfl rfl (by simp only [Tr.get_set, reduceIte, Nat.reduceEqDiff, Nat.reduceAdd, g3] <;> rfl)) rfl (by decide) ?_
          refine o_skip (wA_off rfl rfl (by simp only [Tr.get_set, reduceIte, Nat.reduceEqDiff, Nat.reduceAdd, g3] <;> rfl)) rfl (by decide) ?_
          refine o_skip (wA_off rfl rfl (by simp only [Tr.get_set, reduceIte, Nat.reduceEqDiff, Nat.reduceAdd, g3] <;> rfl)) rfl (by decide) ?_
          refine o_step (wA_on rfl rfl (by simp only [Tr.get_set, reduceIte, Nat.reduceEqDiff, Nat.reduceAdd, g3] <;> rfl)) rfl (x_pick rfl (by simp only [Tr.get_set, reduceIte, Nat.reduceEqDiff, Nat.reduceAdd, ev_tmp, g3] <;> rfl) (by simp only [if_true, if_false, Bool.false_eq_true, ev_tmp, Tr.get_set, reduceIte, Nat.reduceEqDiff, Nat.reduceAdd, g3]; rfl)) (by decide) ?_
          refine os (x_pick rfl (by simp only [Tr.get_set, reduceIte, Nat.reduceEqDiff, Nat.reduceAdd, ev_tmp, g3] <;> rfl) (by simp only [if_true, if_false, Bool.false_eq_true, ev_tmp, Tr.get_set, reduceIte, Nat.reduceEqDiff, Nat.reduceAdd, g3]; rfl)) ?_
          refine om ?_
          refine o_call0 (wA_on rfl rfl (by simp only [Tr.get_set, reduceIte, Nat.reduceEqDiff, Nat.reduceAdd, g3] <;> rfl)) rfl rfl rfl rfl (by decide) ?_
          refine ⟨_, _, ((tab_miss (by decide)).trans ((tab_miss (by decide)).trans ((tab_miss (by decide)).trans ((tab_miss (by decide)).trans ((tab_miss (by decide)).trans ((tab_miss (by decide)).trans ((tab_miss (by decide)).trans (tab_hit.trans lives_c)))))))), ?_⟩
          refine os (x_pick rfl (by simp only [Tr.get_set, reduceIte, Nat.reduceEqDiff, Nat.reduceAdd, ev_tmp, g3] <;> rfl) (by simp only [if_true, if_false, Bool.false_eq_true, ev_tmp, Tr.get_set, reduceIte, Nat.reduceEqDiff, Nat.reduceAdd, g3]; rfl)) ?_
          refine oa ?_
          refine o_done ?_
          refine e_seq ?_
          refine k_ret ?_
          refine gives_mk (L := [0, 1, 2]) (slots := [8]) (w := 3) (.inr rfl) (by kernel_rfl) (gcVs_cons (by simp only [Tr.get_set, reduceIte, Nat.reduceEqDiff, Nat.reduceAdd, g3] <;> rfl) (gcV_free rfl) gcVs_nil) (gcH_cons (gcO_old (by rfl) (by simp only [Tr.get_set, reduceIte, Nat.reduceEqDiff, Nat.reduceAdd] <;> rfl)) (gcH_cons (gcO_old (by rfl) (by simp only [Tr.get_set, reduceIte, Nat.reduceEqDiff, Nat.reduceAdd] <;> rfl)) (gcH_cons (gcO_old (by rfl) (by simp only [Tr.get_set, reduceIte, Nat.reduceEqDiff, Nat.reduceAdd] <;> rfl)) gcH_nil))) (by kernel_rfl) (by simp only [Try.results6, resA, cst, mkE, Tr.get_set, reduceIte, Nat.reduceEqDiff, Nat.reduceAdd] <;> rfl) ?_
          rfl
        · have p3 := g3; try simp only [d1, d2, d3, d4, d5, d6, d7, d8, d9] at p3
          refine o_step (wA_on rfl rfl (by simp only [Tr.get_set, reduceIte, Nat.reduceEqDiff, Nat.reduceAdd, g3] <;> rfl)) rfl (x_move rfl rfl) (by decide) ?_
          refine o_step (wA_on rfl rfl (by simp only [Tr.get_set, reduceIte, Nat.reduceEqDiff, Nat.reduceAdd, g3] <;> rfl)) rfl (x_field (off' := 0) rfl rfl Try.underlying56 rfl T.s22 rfl) (by decide) ?_
          refine o_step (wA_on rfl rfl (by simp only [Tr.get_set, reduceIte, Nat.reduceEqDiff, Nat.reduceAdd, g3] <;> rfl)) rfl (x_load1 rfl rfl T.g22 (by first | exact l_boxI (whole_row rfl rfl) (by (first | assumption | (exact cf_nth (by assumption) (by omega) (by omega)))) rfl | exact l_boxS (whole_row rfl rfl) (by (first | assumption | (exact cf_nth (by assumption) (by omega) (by omega)))) rfl | (simp only [loadC, AH.fam, Tr.get_set, reduceIte, Nat.reduceEqDiff, Nat.reduceAdd, Fam.rb, List.drop_zero, List.drop_succ_cons, List.take_succ_cons, List.take_zero, List.length_cons, List.length_nil, Nat.zero_le, Nat.reduceLeDiff, and_self, true_and] <;> rfl))) (by decide) ?_
          refine o_call0 (wA_on rfl rfl (by simp only [Tr.get_set, reduceIte, Nat.reduceEqDiff, Nat.reduceAdd, g3] <;> rfl)) rfl rfl rfl rfl (by decide) ?_
          refine ⟨_, _, ((tab_miss (by decide)).trans ((tab_miss (by decide)).trans ((tab_miss (by decide)).trans ((tab_miss (by decide)).trans ((tab_miss (by decide)).trans ((tab_miss (by decide)).trans (tab_hit.trans (same01_cT (m := []) (rd_sl hs_w (by decide) (whole_row (by simp only [Tr.get_set, reduceIte, Nat.reduceEqDiff, Nat.reduceAdd] <;> rfl) rfl) (by rw [ints_len, Nat.mul_one]) (ints_free0 _)) (rd_nil (k := 1)) hwb (hAcc (by simpa using g3)))))))))), ?_⟩
          refine o_step (wA_on rfl rfl (by simp only [Tr.get_set, reduceIte, Nat.reduceEqDiff, Nat.reduceAdd, g3] <;> rfl)) rfl (x_pick rfl (by simp only [Tr.get_set, reduceIte, Nat.reduceEqDiff, Nat.reduceAdd, ev_tmp, g3] <;> rfl) (by simp only [if_true, if_false, Bool.false_eq_true, ev_tmp, Tr.get_set, reduceIte, Nat.reduceEqDiff, Nat.reduceAdd, g3]; rfl)) (by decide) ?_
          refine os (x_pick rfl (by simp only [Tr.get_set, reduceIte, Nat.reduceEqDiff, Nat.reduceAdd, ev_tmp, g3] <;> rfl) (by simp only [if_true, if_false, Bool.false_eq_true, ev_tmp, Tr.get_set, reduceIte, Nat.reduceEqDiff, Nat.reduceAdd, g3]; rfl)) ?_
          refine om ?_
          refine o_call0 (wA_on rfl rfl (by simp only [Tr.get_set, reduceIte, Nat.reduceEqDiff, Nat.reduceAdd, g3] <;> rfl)) rfl rfl rfl rfl (by decide) ?_
          refine ⟨_, _, ((tab_miss (by decide)).trans ((tab_miss (by decide)).trans ((tab_miss (by decide)).trans ((tab_miss (by decide)).trans ((tab_miss (by decide)).trans ((tab_miss (by decide)).trans ((tab_miss (by decide)).trans (tab_hit.trans lives_c)))))))), ?_⟩
          refine os (x_pick rfl (by simp only [Tr.get_set, reduceIte, Nat.reduceEqDiff, Nat.reduceAdd, ev_tmp, g3] <;> rfl) (by simp only [if_true, if_false, Bool.false_eq_true, ev_tmp, Tr.get_set, reduceIte, Nat.reduceEqDiff, Nat.reduceAdd, g3]; rfl)) ?_
          refine oa ?_
          refine o_done ?_
          refine e_seq ?_
          refine k_ret ?_
          refine gives_mk (L := [0, 1, 2]) (slots := [8]) (w := 3) (.inr rfl) (by kernel_rfl) (gcVs_cons (by simp only [Tr.get_set, reduceIte, Nat.reduceEqDiff, Nat.reduceAdd, g3] <;> rfl) (gcV_free rfl) gcVs_nil) (gcH_cons (gcO_old (by rfl) (by simp only [Tr.get_set, reduceIte, Nat.reduceEqDiff, Nat.reduceAdd] <;> rfl)) (gcH_cons (gcO_old (by rfl) (by simp only [Tr.get_set, reduceIte, Nat.reduceEqDiff, Nat.reduceAdd] <;> rfl)) (gcH_cons (gcO_old (by rfl) (by simp only [Tr.get_set, reduceIte, Nat.reduceEqDiff, Nat.reduceAdd] <;> rfl)) gcH_nil))) (by kernel_rfl) (by simp only [Try.results6, resA, cst, mkE, Tr.get_set, reduceIte, Nat.reduceEqDiff, Nat.reduceAdd] <;> rfl) ?_
          rfl
  · skip
    have hR1 : 0 < R.length := by omega
    rcases Nat.eq_zero_or_pos W.length with hW0 | hW1
    · skip
      have hW2 : W = [] := List.eq_nil_of_length_eq_zero hW0
      have hAA2 : AA = [] := List.eq_nil_of_length_eq_zero (by omega)
      subst hW2; subst hAA2
      · skip
        refine k_seq ?_
        refine k_region hP hC ?_
        refine os (x_assign rfl (by rfl)) ?_
        refine o_done ?_
        refine e_seq ?_
        refine k_seq ?_
        refine k_region hP hC ?_
        refine om ?_
        refine om ?_
        refine o_call0 (wA_none rfl) rfl rfl rfl rfl (by decide) ?_
        refine ⟨_, _, (tab_hit.trans (made_c1 hA hR (rd_sl hs_l (by decide) (whole_row rfl rfl) (by rw [ints_len, Nat.mul_one]) (ints_free0 _)) (by simp only [ok_made, Bool.and_eq_true, decide_eq_true_eq]; exact ⟨⟨⟨⟨by decide, by decide⟩, hbt⟩, hl⟩, hlb⟩) hA1 hR1)), ?_⟩
        refine om ?_
        refine os (x_extract rfl rfl rfl) ?_
        refine os (x_extract rfl rfl rfl) ?_
        refine oa ?_
        refine oa ?_
        refine o_done ?_
        refine e_seq ?_
        refine k_seq ?_
        refine k_region hP hC ?_
        refine om ?_
        refine om ?_
        refine o_call0 (wA_none rfl) rfl rfl rfl rfl (by decide) ?_
        refine ⟨_, _, ((tab_miss (by decide)).trans (tab_hit.trans (judge_c0 (L := A) (R := R) (rd_whole (by decide) (.inr rfl) (whole_row rfl rfl) (cfs_len h_A).symm (cfs_free0 h_A)) h_A (rd_whole (by decide) (.inr rfl) (whole_row rfl rfl) (cfs_len h_R).symm (cfs_free0 h_R)) h_R hAb hE (by rw [← hWd]; rfl)))), ?_⟩
        refine om ?_
        refine os (x_extract rfl rfl rfl) ?_
        refine os (x_extract rfl rfl rfl) ?_
        refine os (y_alloc rfl T.z56 rfl rfl) ?_
        refine o_stepN (wA_none rfl) rfl (y_storeA rfl rfl rfl T.s56 rfl rfl rfl rfl rfl) ?_
        refine oa ?_
        refine o_done ?_
        refine e_seq ?_
        refine k_seq ?_
        refine k_region hP hC ?_
        refine om ?_
        refine os (x_loadA' rfl rfl T.g56 T.s56 rfl rfl (Nat.le_of_ble_eq_true rfl) (by simp only [List.take_succ_cons, List.drop_succ_cons, List.take_zero, List.drop_zero, List.take_nil, List.drop_nil, List.cons_append, List.nil_append, List.append_nil, List.length_cons, List.length_nil, Nat.reduceAdd, Int.toNat_zero, Nat.zero_mul, Nat.add_zero, Nat.zero_add] <;> rfl)) ?_
        refine o_call0 (wA_none rfl) rfl rfl rfl rfl (by decide) ?_
        refine ⟨_, _, ((tab_miss (by decide)).trans ((tab_miss (by decide)).trans (tab_hit.trans (kept_c1 (L := A) (w := []) (a := []) (rd_whole (by decide) (.inr rfl) (whole_row rfl rfl) (cfs_len h_A).symm (cfs_free0 h_A)) h_A rfl (rd_nil (k := 1)) (rd_nil (k := 1)) hAb (by omega) (by decide))))), ?_⟩
        refine oa ?_
        refine o_done ?_
        refine e_seq ?_
        refine k_seq ?_
        refine k_seq ?_
        refine k_region hP hC ?_
        refine os (x_assign rfl (by rfl)) ?_
        refine o_done ?_
        refine e_seq ?_
        refine k_block ?_
        refine k_loop (α := Int) (fun i => cst 110 [2, 3, 9, 10, 11, 12, 13, 14] [s_w, s_a, .slice (some ⟨3, 0, none⟩) A.length (A.length + 46), .slice (some ⟨4, 0, none⟩) R.length (R.length + 22), .pointer (some ⟨5, 0, none⟩), .int .i64 0, .slice (some ⟨6, 0, none⟩) (keptL ([] : List Int) A).length ((keptL ([] : List Int) A).length + 46), .int .i64 i] [.row (ints l) 0 BIG true (ints l).length, .row (ints w) 1 BIG true (ints w).length, .row (ints a) 2 BIG true (ints a).length, .row A.flatten 3 BIG false A.flatten.length, .row R.flatten 4 BIG false R.flatten.length, .row [.slice none 0 0, .slice none 0 0] 5 BIG false 2, .row (keptZ A ([] : List Int)).flatten 6 BIG false (keptZ A ([] : List Int)).flatten.length] 3) (fun i => 0 ≤ i ∧ i ≤ (keptL ([] : List Int) A).length) (fun i => ((keptL ([] : List Int) A).length - i).toNat) 0 (to_mk (L := [0, 1, 2, 3, 4, 5, 6]) (slots := [2, 3, 9, 10, 11, 12, 13, 14]) (w := 3) (by kernel_rfl) (gcVs_cons rfl (gcV_sl hs_w rfl) (gcVs_cons rfl (gcV_sl hs_a rfl) (gcVs_cons rfl (gcV_slice rfl) (gcVs_cons rfl (gcV_slice rfl) (gcVs_cons rfl (gcV_ptr rfl) (gcVs_cons rfl gFre (gcVs_cons rfl (gcV_slice rfl) (gcVs_cons rfl gFre gcVs_nil)))))))) (gcH_cons gOld (gcH_cons gOld (gcH_cons gOld (gcH_cons (gcO_row (by rfl) rfl (gcD_free (cfs_free1 h_A))) (gcH_cons (gcO_row (by rfl) rfl (gcD_free (cfs_free1 h_R))) (gcH_cons (gcO_rowE (by rfl) rfl (gcD_free rfl) rfl) (gcH_cons (gcO_row (by rfl) rfl (gcD_free (cfs_free1 h_K))) gcH_nil))))))) (by kernel_rfl)) ⟨by omega, by omega⟩ ?_
        rintro i ⟨h0, h1⟩
        refine k_cst rfl rfl rfl ?_
        refine k_seq ?_
        refine k_seq ?_
        refine k_region hP hC ?_
        refine om ?_
        refine om ?_
        refine os (x_len rfl rfl rfl rfl Try.underlying23) ?_
        refine os (x_bin rfl rfl rfl b_lss) ?_
        refine o_done ?_
        refine e_seq ?_
        refine k_cond rfl (fun g8 => ?_) (fun g8 => ?_)
        · have p8 := g8; try simp only [d1, d2, d3, d4, d5, d6, d7, d8, d9] at p8
          refine k_skip ?_
          refine e_seq ?_
          refine k_seq ?_
          refine k_block ?_
          refine k_seq ?_
          refine k_draw hP hC (by kernel_rfl) ?_
          refine dm ?_
          refine dm ?_
          refine ds (x_index rfl rfl rfl Try.underlying23 T.s43 (by omega) (by omega)) ?_
          refine ds (x_loadA rfl rfl T.g43 T.s43 (l_elem (whole_row rfl rfl) (by assumption) rfl (by omega) (by omega))) ?_
          refine d_call0 (wA_none rfl) rfl rfl rfl rfl (by decide) ?_
          refine ⟨_, _, _, _, ((tab_miss (by decide)).trans ((tab_miss (by decide)).trans ((tab_miss (by decide)).trans (tab_hit.trans (wrong33_cF (by first | assumption | (apply cf_part; (first | assumption | (exact cf_nth (by assumption) (by omega) (by omega))); rfl) | (exact cf_nth (by assumption) (by omega) (by omega))) (kz_in hA h0 (by omega)) (kz_right hA hR hWd h0 (by omega))))))), ?_⟩
          refine dm ?_
          refine d_step (wA_on rfl rfl (by simp only [Tr.get_set, reduceIte, Nat.reduceEqDiff, Nat.reduceAdd, g8] <;> rfl)) rfl (x_field (off' := 0) rfl rfl Try.underlying56 rfl T.s22 rfl) (by decide) ?_
          refine d_step (wA_on rfl rfl (by simp only [Tr.get_set, reduceIte, Nat.reduceEqDiff, Nat.reduceAdd, g8] <;> rfl)) rfl (x_load1 rfl rfl T.g22 (by first | exact l_boxI (whole_row rfl rfl) (by (first | assumption | (exact cf_nth (by assumption) (by omega) (by omega)))) rfl | exact l_boxS (whole_row rfl rfl) (by (first | assumption | (exact cf_nth (by assumption) (by omega) (by omega)))) rfl | (simp only [loadC, AH.fam, Tr.get_set, reduceIte, Nat.reduceEqDiff, Nat.reduceAdd, Fam.rb, List.drop_zero, List.drop_succ_cons, List.take_succ_cons, List.take_zero, List.length_cons, List.length_nil, Nat.zero_le, Nat.reduceLeDiff, and_self, true_and] <;> rfl))) (by decide) ?_
          refine d_step (wA_on rfl rfl (by simp only [Tr.get_set, reduceIte, Nat.reduceEqDiff, Nat.reduceAdd, g8] <;> rfl)) rfl (x_move rfl rfl) (by decide) ?_
          refine d_step (wA_on rfl rfl (by simp only [Tr.get_set, reduceIte, Nat.reduceEqDiff, Nat.reduceAdd, g8] <;> rfl)) rfl (x_move rfl rfl) (by decide) ?_
          refine d_step (wA_on rfl rfl (by simp only [Tr.get_set, reduceIte, Nat.reduceEqDiff, Nat.reduceAdd, g8] <;> rfl)) rfl (x_index rfl rfl rfl Try.underlying23 T.s43 (by omega) (by omega)) (by decide) ?_
          refine d_step (wA_on rfl rfl (by simp only [Tr.get_set, reduceIte, Nat.reduceEqDiff, Nat.reduceAdd, g8] <;> rfl)) rfl (x_field0 rfl rfl Try.underlying43 rfl T.s3 rfl) (by decide) ?_
          refine d_step (wA_on rfl rfl (by simp only [Tr.get_set, reduceIte, Nat.reduceEqDiff, Nat.reduceAdd, g8] <;> rfl)) rfl (x_load1 rfl rfl T.g3 (l_partI0 (K := 46) (whole_row rfl rfl) (by assumption) rfl (by omega) (by omega) rfl)) (by decide) ?_
          refine d_call0 (wA_on rfl rfl (by simp only [Tr.get_set, reduceIte, Nat.reduceEqDiff, Nat.reduceAdd, g8] <;> rfl)) rfl rfl rfl rfl (by decide) ?_
          refine ⟨_, _, _, _, ((tab_miss (by decide)).trans ((tab_miss (by decide)).trans ((tab_miss (by decide)).trans ((tab_miss (by decide)).trans (tab_hit.trans (in_cF (l := []) (rd_nil (k := 1)) (by decide) (kz_out h0 (by omega)))))))), ?_⟩
          refine ds (x_pick rfl (by simp only [Tr.get_set, reduceIte, Nat.reduceEqDiff, Nat.reduceAdd, ev_tmp, g8] <;> rfl) (by simp only [if_true, if_false, Bool.false_eq_true, ev_tmp, Tr.get_set, reduceIte, Nat.reduceEqDiff, Nat.reduceAdd, g8]; rfl)) ?_
          refine d_done ⟨by kernel_rfl, ?_⟩
          refine e_seq ?_
          refine k_condF (by simp only [Tr.get_set, reduceIte, Nat.reduceEqDiff, Nat.reduceAdd, ev_tmp, g8] <;> rfl) ?_
          refine k_skip ?_
          refine e_block ?_
          refine e_seq ?_
          refine k_region hP hC ?_
          refine om ?_
          refine os (x_bin rfl rfl (by rfl) b_add) ?_
          refine oa ?_
          refine o_done ?_
          refine e_loop ?_
          refine ⟨IntKind.i64.wrap (i + 1), (to_mk (L := [0, 1, 2, 3, 4, 5, 6]) (slots := [2, 3, 9, 10, 11, 12, 13, 14]) (w := 3) (by kernel_rfl) (gcVs_cons rfl (gcV_sl hs_w rfl) (gcVs_cons rfl (gcV_sl hs_a rfl) (gcVs_cons rfl (gcV_slice rfl) (gcVs_cons rfl (gcV_slice rfl) (gcVs_cons rfl (gcV_ptr rfl) (gcVs_cons rfl gFre (gcVs_cons rfl (gcV_slice rfl) (gcVs_cons rfl gFre gcVs_nil)))))))) (gcH_cons gOld (gcH_cons gOld (gcH_cons gOld (gcH_cons (gcO_row (by rfl) rfl (gcD_free (cfs_free1 h_A))) (gcH_cons (gcO_row (by rfl) rfl (gcD_free (cfs_free1 h_R))) (gcH_cons (gcO_rowE (by rfl) rfl (gcD_free rfl) rfl) (gcH_cons (gcO_row (by rfl) rfl (gcD_free (cfs_free1 h_K))) gcH_nil))))))) (by kernel_rfl)), ?_, ?_⟩
          · rw [wr1 (by omega) (by omega)]; exact ⟨by omega, by omega⟩
          · rw [wr1 (by omega) (by omega)]; omega
        · have p8 := g8; try simp only [d1, d2, d3, d4, d5, d6, d7, d8, d9] at p8
          refine k_exit ?_
          refine e_seq_exit ?_
          refine e_loop_exit ?_
          refine e_block_eq ?_
          refine e_seq ?_
          refine k_seq ?_
          refine k_region hP hC ?_
          refine os (x_assign rfl (by rfl)) ?_
          refine o_done ?_
          refine e_seq ?_
          refine k_seq ?_
          refine k_seq ?_
          refine k_region hP hC ?_
          refine os (x_assign rfl (by rfl)) ?_
          refine o_done ?_
          refine e_seq ?_
          refine k_block ?_
          refine k_loop (α := Int × Int) (fun z => match z with | (n, i) => cst 110 [2, 3, 9, 10, 11, 12, 13, 15, 16] [s_w, s_a, .slice (some ⟨3, 0, none⟩) A.length (A.length + 46), .slice (some ⟨4, 0, none⟩) R.length (R.length + 22), .pointer (some ⟨5, 0, none⟩), .int .i64 0, .slice (some ⟨6, 0, none⟩) (keptL ([] : List Int) A).length ((keptL ([] : List Int) A).length + 46), .int .i64 n, .int .i64 i] [.row (ints l) 0 BIG true (ints l).length, .row (ints w) 1 BIG true (ints w).length, .row (ints a) 2 BIG true (ints a).length, .row A.flatten 3 BIG false A.flatten.length, .row R.flatten 4 BIG false R.flatten.length, .row [.slice none 0 0, .slice none 0 0] 5 BIG false 2, .row (keptZ A ([] : List Int)).flatten 6 BIG false (keptZ A ([] : List Int)).flatten.length] 3) (fun z => match z with | (n, i) => 0 ≤ i ∧ i ≤ A.length ∧ 0 ≤ n ∧ (keptL ([] : List Int) (A.take i.toNat)).length + n = i) (fun z => match z with | (_, i) => (A.length - i).toNat) (0, 0) (to_mk (L := [0, 1, 2, 3, 4, 5, 6]) (slots := [2, 3, 9, 10, 11, 12, 13, 15, 16]) (w := 3) (by kernel_rfl) (gcVs_cons rfl (gcV_sl hs_w rfl) (gcVs_cons rfl (gcV_sl hs_a rfl) (gcVs_cons rfl (gcV_slice rfl) (gcVs_cons rfl (gcV_slice rfl) (gcVs_cons rfl (gcV_ptr rfl) (gcVs_cons rfl gFre (gcVs_cons rfl (gcV_slice rfl) (gcVs_cons rfl gFre (gcVs_cons rfl gFre gcVs_nil))))))))) (gcH_cons gOld (gcH_cons gOld (gcH_cons gOld (gcH_cons (gcO_row (by rfl) rfl (gcD_free (cfs_free1 h_A))) (gcH_cons (gcO_row (by rfl) rfl (gcD_free (cfs_free1 h_R))) (gcH_cons (gcO_rowE (by rfl) rfl (gcD_free rfl) rfl) (gcH_cons (gcO_row (by rfl) rfl (gcD_free (cfs_free1 h_K))) gcH_nil))))))) (by kernel_rfl)) ⟨by omega, by omega, by omega, rfl⟩ ?_
          rintro ⟨n, i⟩ ⟨h0, h1, h2, h3⟩
          refine k_cst rfl rfl rfl ?_
          refine k_seq ?_
          refine k_seq ?_
          refine k_region hP hC ?_
          refine om ?_
          refine om ?_
          refine os (x_len rfl rfl rfl rfl Try.underlying23) ?_
          refine os (x_bin rfl rfl rfl b_lss) ?_
          refine o_done ?_
          refine e_seq ?_
          refine k_cond rfl (fun g12 => ?_) (fun g12 => ?_)
          · have p12 := g12; try simp only [d1, d2, d3, d4, d5, d6, d7, d8, d9] at p12
            refine k_skip ?_
            refine e_seq ?_
            refine k_seq ?_
            refine k_block ?_
            refine k_seq ?_
            refine k_draw hP hC (by kernel_rfl) ?_
            refine ds (x_field (off' := 0) rfl rfl Try.underlying56 rfl T.s22 rfl) ?_
            refine ds (x_load1 rfl rfl T.g22 (by first | exact l_boxI (whole_row rfl rfl) (by (first | assumption | (exact cf_nth (by assumption) (by omega) (by omega)))) rfl | exact l_boxS (whole_row rfl rfl) (by (first | assumption | (exact cf_nth (by assumption) (by omega) (by omega)))) rfl | (simp only [loadC, AH.fam, Tr.get_set, reduceIte, Nat.reduceEqDiff, Nat.reduceAdd, Fam.rb, List.drop_zero, List.drop_succ_cons, List.take_succ_cons, List.take_zero, List.length_cons, List.length_nil, Nat.zero_le, Nat.reduceLeDiff, and_self, true_and] <;> rfl))) ?_
            refine dm ?_
            refine dm ?_
            refine ds (x_index rfl rfl rfl Try.underlying23 T.s43 (by omega) (by omega)) ?_
            refine ds (x_field0 rfl rfl Try.underlying43 rfl T.s3 rfl) ?_
            refine ds (x_load1 rfl rfl T.g3 (l_partI0 (K := 46) (whole_row rfl rfl) (by assumption) rfl (by omega) (by omega) rfl)) ?_
            refine d_call0 (wA_none rfl) rfl rfl rfl rfl (by decide) ?_
            refine ⟨_, _, _, _, ((tab_miss (by decide)).trans ((tab_miss (by decide)).trans ((tab_miss (by decide)).trans ((tab_miss (by decide)).trans (tab_hit.trans (in_c (l := []) (rd_nil (k := 1)) (by rw [ok_in, decide_eq_true (by decide)]))))))), ?_⟩
            refine d_done ⟨by kernel_rfl, ?_⟩
            refine e_seq ?_
            refine k_cond rfl (fun g14 => ?_) (fun g14 => ?_)
            · have p14 := g14; try simp only [d1, d2, d3, d4, d5, d6, d7, d8, d9] at p14
              refine k_region hP hC ?_
              refine om ?_
              refine os (x_bin rfl rfl (by rfl) b_add) ?_
              refine oa ?_
              refine o_done ?_
              refine e_block ?_
              refine e_seq ?_
              refine k_region hP hC ?_
              refine om ?_
              refine os (x_bin rfl rfl (by rfl) b_add) ?_
              refine oa ?_
              refine o_done ?_
              refine e_loop ?_
              refine ⟨(IntKind.i64.wrap (n + 1), IntKind.i64.wrap (i + 1)), (to_mk (L := [0, 1, 2, 3, 4, 5, 6]) (slots := [2, 3, 9, 10, 11, 12, 13, 15, 16]) (w := 3) (by kernel_rfl) (gcVs_cons rfl (gcV_sl hs_w rfl) (gcVs_cons rfl (gcV_sl hs_a rfl) (gcVs_cons rfl (gcV_slice rfl) (gcVs_cons rfl (gcV_slice rfl) (gcVs_cons rfl (gcV_ptr rfl) (gcVs_cons rfl gFre (gcVs_cons rfl (gcV_slice rfl) (gcVs_cons rfl gFre (gcVs_cons rfl gFre gcVs_nil))))))))) (gcH_cons gOld (gcH_cons gOld (gcH_cons gOld (gcH_cons (gcO_row (by rfl) rfl (gcD_free (cfs_free1 h_A))) (gcH_cons (gcO_row (by rfl) rfl (gcD_free (cfs_free1 h_R))) (gcH_cons (gcO_rowE (by rfl) rfl (gcD_free rfl) rfl) (gcH_cons (gcO_row (by rfl) rfl (gcD_free (cfs_free1 h_K))) gcH_nil))))))) (by kernel_rfl)), ?_, ?_⟩
              · rw [wr1 (by omega) (by omega)]; rw [wr1 (by omega) (by omega)]; exact ⟨by omega, by omega, by omega, by rw [gone_in h0 (by omega) (by assumption)]; omega⟩
              · show (A.length - IntKind.i64.wrap (i + 1)).toNat < (A.length - i).toNat; rw [wr1 (by omega) (by omega)]; omega
            · have p14 := g14; try simp only [d1, d2, d3, d4, d5, d6, d7, d8, d9] at p14
              refine k_skip ?_
              refine e_block ?_
              refine e_seq ?_
              refine k_region hP hC ?_
              refine om ?_
              refine os (x_bin rfl rfl (by rfl) b_add) ?_
              refine oa ?_
              refine o_done ?_
              refine e_loop ?_
              refine ⟨(n, IntKind.i64.wrap (i + 1)), (to_mk (L := [0, 1, 2, 3, 4, 5, 6]) (slots := [2, 3, 9, 10, 11, 12, 13, 15, 16]) (w := 3) (by kernel_rfl) (gcVs_cons rfl (gcV_sl hs_w rfl) (gcVs_cons rfl (gcV_sl hs_a rfl) (gcVs_cons rfl (gcV_slice rfl) (gcVs_cons rfl (gcV_slice rfl) (gcVs_cons rfl (gcV_ptr rfl) (gcVs_cons rfl gFre (gcVs_cons rfl (gcV_slice rfl) (gcVs_cons rfl gFre (gcVs_cons rfl gFre gcVs_nil))))))))) (gcH_cons gOld (gcH_cons gOld (gcH_cons gOld (gcH_cons (gcO_row (by rfl) rfl (gcD_free (cfs_free1 h_A))) (gcH_cons (gcO_row (by rfl) rfl (gcD_free (cfs_free1 h_R))) (gcH_cons (gcO_rowE (by rfl) rfl (gcD_free rfl) rfl) (gcH_cons (gcO_row (by rfl) rfl (gcD_free (cfs_free1 h_K))) gcH_nil))))))) (by kernel_rfl)), ?_, ?_⟩
              · rw [wr1 (by omega) (by omega)]; exact ⟨by omega, by omega, by omega, by rw [gone_out h0 (by omega) (by assumption)]; omega⟩
              · show (A.length - IntKind.i64.wrap (i + 1)).toNat < (A.length - i).toNat; rw [wr1 (by omega) (by omega)]; omega
          · have p12 := g12; try simp only [d1, d2, d3, d4, d5, d6, d7, d8, d9] at p12
            refine k_exit ?_
            refine e_seq_exit ?_
            refine e_loop_exit ?_
            refine e_block_eq ?_
            refine e_seq ?_
            refine k_seq ?_
            refine k_region hP hC ?_
            refine om ?_
            refine om ?_
            refine os (x_build (v := .agg ⟨[s_w, s_a]⟩) rfl rfl T.z56 rfl (by obtain ⟨ad, c, e⟩ := hs_w.shape; obtain ⟨ad2, c2, e2⟩ := hs_a.shape; rw [e, e2]; kernel_rfl)) ?_
            refine os (y_alloc rfl T.z56 rfl rfl) ?_
            refine o_stepN (wA_none rfl) rfl (y_storeA rfl (by simp only [Tr.get_set, reduceIte, Nat.reduceEqDiff, Nat.reduceAdd, ev_tmp, g12] <;> rfl) (by simp only [Tr.get_set, reduceIte, Nat.reduceEqDiff, Nat.reduceAdd, ev_tmp, g12] <;> rfl) T.s56 rfl (by simp only [Tr.get_set, reduceIte, Nat.reduceEqDiff, Nat.reduceAdd] <;> rfl) rfl rfl (sl_one2 hs_w hs_a)) ?_
            refine o_done ?_
            refine e_seq ?_
            refine k_seq ?_
            refine k_region hP hC ?_
            refine om ?_
            refine om ?_
            refine o_step (wA_none rfl) rfl (x_loadA' rfl (by simp only [Tr.get_set, reduceIte, Nat.reduceEqDiff, Nat.reduceAdd, ev_tmp, g12] <;> rfl) T.g56 T.s56 (by simp only [Tr.get_set, reduceIte, Nat.reduceEqDiff, Nat.reduceAdd] <;> rfl) rfl (Nat.le_of_ble_eq_true rfl) rfl) (by decide) ?_
            refine o_call0 (wA_none rfl) rfl rfl rfl rfl (by decide) ?_
            refine ⟨_, _, ((tab_miss (by decide)).trans ((tab_miss (by decide)).trans ((tab_miss (by decide)).trans ((tab_miss (by decide)).trans ((tab_miss (by decide)).trans (tab_hit.trans (check_c (L := A) (R := R) (rd_whole (by decide) (.inr rfl) (whole_row (by simp only [Tr.get_set, reduceIte, Nat.reduceEqDiff, Nat.reduceAdd] <;> rfl) rfl) (cfs_len h_A).symm (cfs_free0 h_A)) h_A (rd_whole (by decide) (.inr rfl) (whole_row (by simp only [Tr.get_set, reduceIte, Nat.reduceEqDiff, Nat.reduceAdd] <;> rfl) rfl) (cfs_len h_R).symm (cfs_free0 h_R)) h_R (rd_sl hs_w (by decide) (whole_row (by simp only [Tr.get_set, reduceIte, Nat.reduceEqDiff, Nat.reduceAdd] <;> rfl) rfl) (by rw [ints_len, Nat.mul_one]) (ints_free0 _)) (rd_sl hs_a (by decide) (whole_row (by simp only [Tr.get_set, reduceIte, Nat.reduceEqDiff, Nat.reduceAdd] <;> rfl) rfl) (by rw [ints_len, Nat.mul_one]) (ints_free0 _)) okk2))))))), ?_⟩
            refine os (x_bin rfl rfl (by rfl) b_eql) ?_
            refine oa ?_
            refine o_done ?_
            refine e_seq ?_
            refine k_seq ?_
            refine k_region hP hC ?_
            refine om ?_
            refine os (x_bin (u := .bool true) rfl rfl (by rfl) (by rw [b_eql]; rfl)) ?_
            refine om ?_
            refine o_step (wA_on rfl rfl (by simp only [Tr.get_set, reduceIte, Nat.reduceEqDiff, Nat.reduceAdd, g12] <;> rfl)) rfl (x_move rfl rfl) (by decide) ?_
            refine o_step (wA_on rfl rfl (by simp only [Tr.get_set, reduceIte, Nat.reduceEqDiff, Nat.reduceAdd, g12] <;> rfl)) rfl (x_len rfl rfl rfl rfl Try.underlying23) (by decide) ?_
            refine o_step (wA_on rfl rfl (by simp only [Tr.get_set, reduceIte, Nat.reduceEqDiff, Nat.reduceAdd, g12] <;> rfl)) rfl (x_move rfl rfl) (by decide) ?_
            refine o_step (wA_on rfl rfl (by simp only [Tr.get_set, reduceIte, Nat.reduceEqDiff, Nat.reduceAdd, g12] <;> rfl)) rfl (x_bin rfl rfl rfl b_add) (by decide) ?_
            refine o_step (wA_on rfl rfl (by simp only [Tr.get_set, reduceIte, Nat.reduceEqDiff, Nat.reduceAdd, g12] <;> rfl)) rfl (x_move rfl rfl) (by decide) ?_
            refine o_step (wA_on rfl rfl (by simp only [Tr.get_set, reduceIte, Nat.reduceEqDiff, Nat.reduceAdd, g12] <;> rfl)) rfl (x_len rfl rfl rfl rfl Try.underlying23) (by decide) ?_
            refine o_step (wA_on rfl rfl (by simp only [Tr.get_set, reduceIte, Nat.reduceEqDiff, Nat.reduceAdd, g12] <;> rfl)) rfl (x_bin (u := .bool true) rfl rfl rfl (by rw [b_eql]; congr 2; exact decide_eq_true (gone_end (by omega) h3 hAb))) (by decide) ?_
            refine os (x_pick rfl (by simp only [Tr.get_set, reduceIte, Nat.reduceEqDiff, Nat.reduceAdd, ev_tmp, g12] <;> rfl) (by simp only [if_true, if_false, Bool.false_eq_true, ev_tmp, Tr.get_set, reduceIte, Nat.reduceEqDiff, Nat.reduceAdd, g12]; rfl)) ?_
            refine om ?_
            refine o_step (wA_on rfl rfl (by simp only [Tr.get_set, reduceIte, Nat.reduceEqDiff, Nat.reduceAdd, g12] <;> rfl)) rfl (x_move rfl rfl) (by decide) ?_
            refine o_step (wA_on rfl rfl (by simp only [Tr.get_set, reduceIte, Nat.reduceEqDiff, Nat.reduceAdd, g12] <;> rfl)) rfl (x_move rfl rfl) (by decide) ?_
            refine o_step (wA_on rfl rfl (by simp only [Tr.get_set, reduceIte, Nat.reduceEqDiff, Nat.reduceAdd, g12] <;> rfl)) rfl (x_loadA' rfl (by simp only [Tr.get_set, reduceIte, Nat.reduceEqDiff, Nat.reduceAdd, ev_tmp, g12] <;> rfl) T.g56 T.s56 (by simp only [Tr.get_set, reduceIte, Nat.reduceEqDiff, Nat.reduceAdd] <;> rfl) rfl (Nat.le_of_ble_eq_true rfl) rfl) (by decide) ?_
            refine o_call0 (wA_on rfl rfl (by simp only [Tr.get_set, reduceIte, Nat.reduceEqDiff, Nat.reduceAdd, g12] <;> rfl)) rfl rfl rfl rfl (by decide) ?_
            refine ⟨_, _, ((tab_miss (by decide)).trans ((tab_miss (by decide)).trans ((tab_miss (by decide)).trans ((tab_miss (by decide)).trans ((tab_miss (by decide)).trans (tab_hit.trans (check_cZ (w := []) (a := []) (L := A) (R := R) (rd_whole (by decide) (.inr rfl) (whole_row (by simp only [Tr.get_set, reduceIte, Nat.reduceEqDiff, Nat.reduceAdd] <;> rfl) rfl) (cfs_len h_A).symm (cfs_free0 h_A)) h_A (rd_whole (by decide) (.inr rfl) (whole_row (by simp only [Tr.get_set, reduceIte, Nat.reduceEqDiff, Nat.reduceAdd] <;> rfl) rfl) (cfs_len h_R).symm (cfs_free0 h_R)) h_R (rd_nil (k := 1)) (rd_nil (k := 1)) okk1 hCk))))))), ?_⟩
            refine o_step (wA_on rfl rfl (by simp only [Tr.get_set, reduceIte, Nat.reduceEqDiff, Nat.reduceAdd, g12] <;> rfl)) rfl (x_bin (u := .bool true) rfl rfl (by rfl) (by rw [b_eql]; rfl)) (by decide) ?_
            refine os (x_pick rfl (by simp only [Tr.get_set, reduceIte, Nat.reduceEqDiff, Nat.reduceAdd, ev_tmp, g12] <;> rfl) (by simp only [if_true, if_false, Bool.false_eq_true, ev_tmp, Tr.get_set, reduceIte, Nat.reduceEqDiff, Nat.reduceAdd, g12]; rfl)) ?_
            refine om ?_
            refine o_step (wA_on rfl rfl (by simp only [Tr.get_set, reduceIte, Nat.reduceEqDiff, Nat.reduceAdd, g12] <;> rfl)) rfl (x_move rfl rfl) (by decide) ?_
            refine o_step (wA_on rfl rfl (by simp only [Tr.get_set, reduceIte, Nat.reduceEqDiff, Nat.reduceAdd, g12] <;> rfl)) rfl (x_not rfl rfl) (by decide) ?_
            refine o_step (wA_on rfl rfl (by simp only [Tr.get_set, reduceIte, Nat.reduceEqDiff, Nat.reduceAdd, g12] <;> rfl)) rfl (x_move rfl rfl) (by decide) ?_
            refine o_guard rfl rfl rfl (fun g17 => ?_) (fun g17 => ?_)
            · have p17 := g17; try simp only [d1, d2, d3, d4, d5, d6, d7, d8, d9] at p17
              refine o_skip (wA_off rfl rfl (by simp only [Tr.get_set, reduceIte, Nat.reduceEqDiff, Nat.reduceAdd, g12, g17] <;> rfl)) rfl (by decide) ?_
              refine o_skip (wA_off rfl rfl (by simp only [Tr.get_set, reduceIte, Nat.reduceEqDiff, Nat.reduceAdd, g12, g17] <;> rfl)) rfl (by decide) ?_
              refine o_skip (wA_off rfl rfl (by simp only [Tr.get_set, reduceIte, Nat.reduceEqDiff, Nat.reduceAdd, g12, g17] <;> rfl)) rfl (by decide) ?_
              refine o_skip (wA_off rfl rfl (by simp only [Tr.get_set, reduceIte, Nat.reduceEqDiff, Nat.reduceAdd, g12, g17] <;> rfl)) rfl (by decide) ?_
              refine o_step (wA_on rfl rfl (by simp only [Tr.get_set, reduceIte, Nat.reduceEqDiff, Nat.reduceAdd, g12, g17] <;> rfl)) rfl (x_pick rfl (by simp only [Tr.get_set, reduceIte, Nat.reduceEqDiff, Nat.reduceAdd, ev_tmp, g12, g17] <;> rfl) (by simp only [if_true, if_false, Bool.false_eq_true, ev_tmp, Tr.get_set, reduceIte, Nat.reduceEqDiff, Nat.reduceAdd, g12, g17]; rfl)) (by decide) ?_
              refine os (x_pick rfl (by simp only [Tr.get_set, reduceIte, Nat.reduceEqDiff, Nat.reduceAdd, ev_tmp, g12, g17] <;> rfl) (by simp only [if_true, if_false, Bool.false_eq_true, ev_tmp, Tr.get_set, reduceIte, Nat.reduceEqDiff, Nat.reduceAdd, g12, g17]; rfl)) ?_
              refine om ?_
              refine o_call0 (wA_on rfl rfl (by simp only [Tr.get_set, reduceIte, Nat.reduceEqDiff, Nat.reduceAdd, g12, g17] <;> rfl)) rfl rfl rfl rfl (by decide) ?_
              refine ⟨_, _, ((tab_miss (by decide)).trans ((tab_miss (by decide)).trans ((tab_miss (by decide)).trans ((tab_miss (by decide)).trans ((tab_miss (by decide)).trans ((tab_miss (by decide)).trans ((tab_miss (by decide)).trans (tab_hit.trans lives_c)))))))), ?_⟩
              refine os (x_pick rfl (by simp only [Tr.get_set, reduceIte, Nat.reduceEqDiff, Nat.reduceAdd, ev_tmp, g12, g17] <;> rfl) (by simp only [if_true, if_false, Bool.false_eq_true, ev_tmp, Tr.get_set, reduceIte, Nat.reduceEqDiff, Nat.reduceAdd, g12, g17]; rfl)) ?_
              refine oa ?_
              refine o_done ?_
              refine e_seq ?_
              refine k_ret ?_
              refine gives_mk (L := [0, 1, 2]) (slots := [8]) (w := 3) (.inr rfl) (by kernel_rfl) (gcVs_cons (by simp only [Tr.get_set, reduceIte, Nat.reduceEqDiff, Nat.reduceAdd, g12, g17] <;> rfl) (gcV_free rfl) gcVs_nil) (gcH_cons (gcO_old (by rfl) (by simp only [Tr.get_set, reduceIte, Nat.reduceEqDiff, Nat.reduceAdd] <;> rfl)) (gcH_cons (gcO_old (by rfl) (by simp only [Tr.get_set, reduceIte, Nat.reduceEqDiff, Nat.reduceAdd] <;> rfl)) (gcH_cons (gcO_old (by rfl) (by simp only [Tr.get_set, reduceIte, Nat.reduceEqDiff, Nat.reduceAdd] <;> rfl)) gcH_nil))) (by kernel_rfl) (by simp only [Try.results6, resA, cst, mkE, Tr.get_set, reduceIte, Nat.reduceEqDiff, Nat.reduceAdd] <;> rfl) ?_
              rfl
            · have p17 := g17; try simp only [d1, d2, d3, d4, d5, d6, d7, d8, d9] at p17
              refine o_step (wA_on rfl rfl (by simp only [Tr.get_set, reduceIte, Nat.reduceEqDiff, Nat.reduceAdd, g12, g17] <;> rfl)) rfl (x_move rfl rfl) (by decide) ?_
              refine o_step (wA_on rfl rfl (by simp only [Tr.get_set, reduceIte, Nat.reduceEqDiff, Nat.reduceAdd, g12, g17] <;> rfl)) rfl (x_field (off' := 0) rfl rfl Try.underlying56 rfl T.s22 rfl) (by decide) ?_
              refine o_step (wA_on rfl rfl (by simp only [Tr.get_set, reduceIte, Nat.reduceEqDiff, Nat.reduceAdd, g12, g17] <;> rfl)) rfl (x_load1 rfl rfl T.g22 (by first | exact l_boxI (whole_row rfl rfl) (by (first | assumption | (exact cf_nth (by assumption) (by omega) (by omega)))) rfl | exact l_boxS (whole_row rfl rfl) (by (first | assumption | (exact cf_nth (by assumption) (by omega) (by omega)))) rfl | (simp only [loadC, AH.fam, Tr.get_set, reduceIte, Nat.reduceEqDiff, Nat.reduceAdd, Fam.rb, List.drop_zero, List.drop_succ_cons, List.take_succ_cons, List.take_zero, List.length_cons, List.length_nil, Nat.zero_le, Nat.reduceLeDiff, and_self, true_and] <;> rfl))) (by decide) ?_
              refine o_call0 (wA_on rfl rfl (by simp only [Tr.get_set, reduceIte, Nat.reduceEqDiff, Nat.reduceAdd, g12, g17] <;> rfl)) rfl rfl rfl rfl (by decide) ?_
              refine ⟨_, _, ((tab_miss (by decide)).trans ((tab_miss (by decide)).trans ((tab_miss (by decide)).trans ((tab_miss (by decide)).trans ((tab_miss (by decide)).trans ((tab_miss (by decide)).trans (tab_hit.trans (same01_cT (m := []) (rd_sl hs_w (by decide) (whole_row (by simp only [Tr.get_set, reduceIte, Nat.reduceEqDiff, Nat.reduceAdd] <;> rfl) rfl) (by rw [ints_len, Nat.mul_one]) (ints_free0 _)) (rd_nil (k := 1)) hwb (hAcc (by simpa using g17)))))))))), ?_⟩
              refine o_step (wA_on rfl rfl (by simp only [Tr.get_set, reduceIte, Nat.reduceEqDiff, Nat.reduceAdd, g12, g17] <;> rfl)) rfl (x_pick rfl (by simp only [Tr.get_set, reduceIte, Nat.reduceEqDiff, Nat.reduceAdd, ev_tmp, g12, g17] <;> rfl) (by simp only [if_true, if_false, Bool.false_eq_true, ev_tmp, Tr.get_set, reduceIte, Nat.reduceEqDiff, Nat.reduceAdd, g12, g17]; rfl)) (by decide) ?_
              refine os (x_pick rfl (by simp only [Tr.get_set, reduceIte, Nat.reduceEqDiff, Nat.reduceAdd, ev_tmp, g12, g17] <;> rfl) (by simp only [if_true, if_false, Bool.false_eq_true, ev_tmp, Tr.get_set, reduceIte, Nat.reduceEqDiff, Nat.reduceAdd, g12, g17]; rfl)) ?_
              refine om ?_
              refine o_call0 (wA_on rfl rfl (by simp only [Tr.get_set, reduceIte, Nat.reduceEqDiff, Nat.reduceAdd, g12, g17] <;> rfl)) rfl rfl rfl rfl (by decide) ?_
              refine ⟨_, _, ((tab_miss (by decide)).trans ((tab_miss (by decide)).trans ((tab_miss (by decide)).trans ((tab_miss (by decide)).trans ((tab_miss (by decide)).trans ((tab_miss (by decide)).trans ((tab_miss (by decide)).trans (tab_hit.trans lives_c)))))))), ?_⟩
              refine os (x_pick rfl (by simp only [Tr.get_set, reduceIte, Nat.reduceEqDiff, Nat.reduceAdd, ev_tmp, g12, g17] <;> rfl) (by simp only [if_true, if_false, Bool.false_eq_true, ev_tmp, Tr.get_set, reduceIte, Nat.reduceEqDiff, Nat.reduceAdd, g12, g17]; rfl)) ?_
              refine oa ?_
              refine o_done ?_
              refine e_seq ?_
              refine k_ret ?_
              refine gives_mk (L := [0, 1, 2]) (slots := [8]) (w := 3) (.inr rfl) (by kernel_rfl) (gcVs_cons (by simp only [Tr.get_set, reduceIte, Nat.reduceEqDiff, Nat.reduceAdd, g12, g17] <;> rfl) (gcV_free rfl) gcVs_nil) (gcH_cons (gcO_old (by rfl) (by simp only [Tr.get_set, reduceIte, Nat.reduceEqDiff, Nat.reduceAdd] <;> rfl)) (gcH_cons (gcO_old (by rfl) (by simp only [Tr.get_set, reduceIte, Nat.reduceEqDiff, Nat.reduceAdd] <;> rfl)) (gcH_cons (gcO_old (by rfl) (by simp only [Tr.get_set, reduceIte, Nat.reduceEqDiff, Nat.reduceAdd] <;> rfl)) gcH_nil))) (by kernel_rfl) (by simp only [Try.results6, resA, cst, mkE, Tr.get_set, reduceIte, Nat.reduceEqDiff, Nat.reduceAdd] <;> rfl) ?_
              rfl
    · skip
      skip
      · skip
        refine k_seq ?_
        refine k_region hP hC ?_
        refine os (x_assign rfl (by rfl)) ?_
        refine o_done ?_
        refine e_seq ?_
        refine k_seq ?_
        refine k_region hP hC ?_
        refine om ?_
        refine om ?_
        refine o_call0 (wA_none rfl) rfl rfl rfl rfl (by decide) ?_
        refine ⟨_, _, (tab_hit.trans (made_c1 hA hR (rd_sl hs_l (by decide) (whole_row rfl rfl) (by rw [ints_len, Nat.mul_one]) (ints_free0 _)) (by simp only [ok_made, Bool.and_eq_true, decide_eq_true_eq]; exact ⟨⟨⟨⟨by decide, by decide⟩, hbt⟩, hl⟩, hlb⟩) hA1 hR1)), ?_⟩
        refine om ?_
        refine os (x_extract rfl rfl rfl) ?_
        refine os (x_extract rfl rfl rfl) ?_
        refine oa ?_
        refine oa ?_
        refine o_done ?_
        refine e_seq ?_
        refine k_seq ?_
        refine k_region hP hC ?_
        refine om ?_
        refine om ?_
        refine o_call0 (wA_none rfl) rfl rfl rfl rfl (by decide) ?_
        refine ⟨_, _, ((tab_miss (by decide)).trans (tab_hit.trans (judge_c1 hWd hAAd (L := A) (R := R) (rd_whole (by decide) (.inr rfl) (whole_row rfl rfl) (cfs_len h_A).symm (cfs_free0 h_A)) h_A (rd_whole (by decide) (.inr rfl) (whole_row rfl rfl) (cfs_len h_R).symm (cfs_free0 h_R)) h_R hAb hE hW1))), ?_⟩
        refine om ?_
        refine os (x_extract rfl rfl rfl) ?_
        refine os (x_extract rfl rfl rfl) ?_
        refine os (y_alloc rfl T.z56 rfl rfl) ?_
        refine o_stepN (wA_none rfl) rfl (y_storeA rfl rfl rfl T.s56 rfl rfl rfl rfl rfl) ?_
        refine oa ?_
        refine o_done ?_
        refine e_seq ?_
        refine k_seq ?_
        refine k_region hP hC ?_
        refine om ?_
        refine os (x_loadA' rfl rfl T.g56 T.s56 rfl rfl (Nat.le_of_ble_eq_true rfl) (by simp only [List.take_succ_cons, List.drop_succ_cons, List.take_zero, List.drop_zero, List.take_nil, List.drop_nil, List.cons_append, List.nil_append, List.append_nil, List.length_cons, List.length_nil, Nat.reduceAdd, Int.toNat_zero, Nat.zero_mul, Nat.add_zero, Nat.zero_add] <;> rfl)) ?_
        refine o_call0 (wA_none rfl) rfl rfl rfl rfl (by decide) ?_
        refine ⟨_, _, ((tab_miss (by decide)).trans ((tab_miss (by decide)).trans (tab_hit.trans (kept_c1 (L := A) (rd_whole (by decide) (.inr rfl) (whole_row rfl rfl) (cfs_len h_A).symm (cfs_free0 h_A)) h_A rfl (rd_whole (by decide) (.inr rfl) (whole_row rfl rfl) (by rw [ints_len, Nat.mul_one]) (ints_free0 _)) (rd_whole (by decide) (.inr rfl) (whole_row rfl rfl) (by rw [ints_len, Nat.mul_one]) (ints_free0 _)) hAb (by omega) hWb)))), ?_⟩
        refine oa ?_
        refine o_done ?_
        refine e_seq ?_
        refine k_seq ?_
        refine k_seq ?_
        refine k_region hP hC ?_
        refine os (x_assign rfl (by rfl)) ?_
        refine o_done ?_
        refine e_seq ?_
        refine k_block ?_
        refine k_loop (α := Int) (fun i => cst 110 [2, 3, 9, 10, 11, 12, 13, 14] [s_w, s_a, .slice (some ⟨3, 0, none⟩) A.length (A.length + 46), .slice (some ⟨4, 0, none⟩) R.length (R.length + 22), .pointer (some ⟨7, 0, none⟩), .int .i64 0, .slice (some ⟨8, 0, none⟩) (keptL W A).length ((keptL W A).length + 46), .int .i64 i] [.row (ints l) 0 BIG true (ints l).length, .row (ints w) 1 BIG true (ints w).length, .row (ints a) 2 BIG true (ints a).length, .row A.flatten 3 BIG false A.flatten.length, .row R.flatten 4 BIG false R.flatten.length, .row (ints W) 5 BIG false (ints W).length, .row (ints AA) 6 BIG false (ints AA).length, .row [.slice (some ⟨5, 0, none⟩) W.length (W.length + 1), .slice (some ⟨6, 0, none⟩) AA.length (AA.length + 1)] 7 BIG false 2, .row (keptZ A W).flatten 8 BIG false (keptZ A W).flatten.length] 3) (fun i => 0 ≤ i ∧ i ≤ (keptL W A).length) (fun i => ((keptL W A).length - i).toNat) 0 (to_mk (L := [0, 1, 2, 3, 4, 5, 6, 7, 8]) (slots := [2, 3, 9, 10, 11, 12, 13, 14]) (w := 3) (by kernel_rfl) (gcVs_cons rfl (gcV_sl hs_w rfl) (gcVs_cons rfl (gcV_sl hs_a rfl) (gcVs_cons rfl (gcV_slice rfl) (gcVs_cons rfl (gcV_slice rfl) (gcVs_cons rfl (gcV_ptr rfl) (gcVs_cons rfl gFre (gcVs_cons rfl (gcV_slice rfl) (gcVs_cons rfl gFre gcVs_nil)))))))) (gcH_cons gOld (gcH_cons gOld (gcH_cons gOld (gcH_cons (gcO_row (by rfl) rfl (gcD_free (cfs_free1 h_A))) (gcH_cons (gcO_row (by rfl) rfl (gcD_free (cfs_free1 h_R))) (gcH_cons (gcO_row (by rfl) rfl (gcD_free (ints_free1 _))) (gcH_cons (gcO_row (by rfl) rfl (gcD_free (ints_free1 _))) (gcH_cons (gcO_rowE (by rfl) rfl (gcD_cons (gcV_slice rfl) (gcD_cons (gcV_slice rfl) gcD_nil)) rfl) (gcH_cons (gcO_row (by rfl) rfl (gcD_free (cfs_free1 h_K))) gcH_nil))))))))) (by kernel_rfl)) ⟨by omega, by omega⟩ ?_
        rintro i ⟨h0, h1⟩
        refine k_cst rfl rfl rfl ?_
        refine k_seq ?_
        refine k_seq ?_
        refine k_region hP hC ?_
        refine om ?_
        refine om ?_
        refine os (x_len rfl rfl rfl rfl Try.underlying23) ?_
        refine os (x_bin rfl rfl rfl b_lss) ?_
        refine o_done ?_
        refine e_seq ?_
        refine k_cond rfl (fun g22 => ?_) (fun g22 => ?_)
        · have p22 := g22; try simp only [d1, d2, d3, d4, d5, d6, d7, d8, d9] at p22
          refine k_skip ?_
          refine e_seq ?_
          refine k_seq ?_
          refine k_block ?_
          refine k_seq ?_
          refine k_draw hP hC (by kernel_rfl) ?_
          refine dm ?_
          refine dm ?_
          refine ds (x_index rfl rfl rfl Try.underlying23 T.s43 (by omega) (by omega)) ?_
          refine ds (x_loadA rfl rfl T.g43 T.s43 (l_elem (whole_row rfl rfl) (by assumption) rfl (by omega) (by omega))) ?_
          refine d_call0 (wA_none rfl) rfl rfl rfl rfl (by decide) ?_
          refine ⟨_, _, _, _, ((tab_miss (by decide)).trans ((tab_miss (by decide)).trans ((tab_miss (by decide)).trans (tab_hit.trans (wrong33_cF (by first | assumption | (apply cf_part; (first | assumption | (exact cf_nth (by assumption) (by omega) (by omega))); rfl) | (exact cf_nth (by assumption) (by omega) (by omega))) (kz_in hA h0 (by omega)) (kz_right hA hR hWd h0 (by omega))))))), ?_⟩
          refine dm ?_
          refine d_step (wA_on rfl rfl (by simp only [Tr.get_set, reduceIte, Nat.reduceEqDiff, Nat.reduceAdd, g22] <;> rfl)) rfl (x_field (off' := 0) rfl rfl Try.underlying56 rfl T.s22 rfl) (by decide) ?_
          refine d_step (wA_on rfl rfl (by simp only [Tr.get_set, reduceIte, Nat.reduceEqDiff, Nat.reduceAdd, g22] <;> rfl)) rfl (x_load1 rfl rfl T.g22 (by first | exact l_boxI (whole_row rfl rfl) (by (first | assumption | (exact cf_nth (by assumption) (by omega) (by omega)))) rfl | exact l_boxS (whole_row rfl rfl) (by (first | assumption | (exact cf_nth (by assumption) (by omega) (by omega)))) rfl | (simp only [loadC, AH.fam, Tr.get_set, reduceIte, Nat.reduceEqDiff, Nat.reduceAdd, Fam.rb, List.drop_zero, List.drop_succ_cons, List.take_succ_cons, List.take_zero, List.length_cons, List.length_nil, Nat.zero_le, Nat.reduceLeDiff, and_self, true_and] <;> rfl))) (by decide) ?_
          refine d_step (wA_on rfl rfl (by simp only [Tr.get_set, reduceIte, Nat.reduceEqDiff, Nat.reduceAdd, g22] <;> rfl)) rfl (x_move rfl rfl) (by decide) ?_
          refine d_step (wA_on rfl rfl (by simp only [Tr.get_set, reduceIte, Nat.reduceEqDiff, Nat.reduceAdd, g22] <;> rfl)) rfl (x_move rfl rfl) (by decide) ?_
          refine d_step (wA_on rfl rfl (by simp only [Tr.get_set, reduceIte, Nat.reduceEqDiff, Nat.reduceAdd, g22] <;> rfl)) rfl (x_index rfl rfl rfl Try.underlying23 T.s43 (by omega) (by omega)) (by decide) ?_
          refine d_step (wA_on rfl rfl (by simp only [Tr.get_set, reduceIte, Nat.reduceEqDiff, Nat.reduceAdd, g22] <;> rfl)) rfl (x_field0 rfl rfl Try.underlying43 rfl T.s3 rfl) (by decide) ?_
          refine d_step (wA_on rfl rfl (by simp only [Tr.get_set, reduceIte, Nat.reduceEqDiff, Nat.reduceAdd, g22] <;> rfl)) rfl (x_load1 rfl rfl T.g3 (l_partI0 (K := 46) (whole_row rfl rfl) (by assumption) rfl (by omega) (by omega) rfl)) (by decide) ?_
          refine d_call0 (wA_on rfl rfl (by simp only [Tr.get_set, reduceIte, Nat.reduceEqDiff, Nat.reduceAdd, g22] <;> rfl)) rfl rfl rfl rfl (by decide) ?_
          refine ⟨_, _, _, _, ((tab_miss (by decide)).trans ((tab_miss (by decide)).trans ((tab_miss (by decide)).trans ((tab_miss (by decide)).trans (tab_hit.trans (in_cF (rd_whole (by decide) (.inr rfl) (whole_row rfl rfl) (by rw [ints_len, Nat.mul_one]) (ints_free0 _)) hWb (kz_out h0 (by omega)))))))), ?_⟩
          refine ds (x_pick rfl (by simp only [Tr.get_set, reduceIte, Nat.reduceEqDiff, Nat.reduceAdd, ev_tmp, g22] <;> rfl) (by simp only [if_true, if_false, Bool.false_eq_true, ev_tmp, Tr.get_set, reduceIte, Nat.reduceEqDiff, Nat.reduceAdd, g22]; rfl)) ?_
          refine d_done ⟨by kernel_rfl, ?_⟩
          refine e_seq ?_
          refine k_condF (by simp only [Tr.get_set, reduceIte, Nat.reduceEqDiff, Nat.reduceAdd, ev_tmp, g22] <;> rfl) ?_
          refine k_skip ?_
          refine e_block ?_
          refine e_seq ?_
          refine k_region hP hC ?_
          refine om ?_
          refine os (x_bin rfl rfl (by rfl) b_add) ?_
          refine oa ?_
          refine o_done ?_
          refine e_loop ?_
          refine ⟨IntKind.i64.wrap (i + 1), (to_mk (L := [0, 1, 2, 3, 4, 5, 6, 7, 8]) (slots := [2, 3, 9, 10, 11, 12, 13, 14]) (w := 3) (by kernel_rfl) (gcVs_cons rfl (gcV_sl hs_w rfl) (gcVs_cons rfl (gcV_sl hs_a rfl) (gcVs_cons rfl (gcV_slice rfl) (gcVs_cons rfl (gcV_slice rfl) (gcVs_cons rfl (gcV_ptr rfl) (gcVs_cons rfl gFre (gcVs_cons rfl (gcV_slice rfl) (gcVs_cons rfl gFre gcVs_nil)))))))) (gcH_cons gOld (gcH_cons gOld (gcH_cons gOld (gcH_cons (gcO_row (by rfl) rfl (gcD_free (cfs_free1 h_A))) (gcH_cons (gcO_row (by rfl) rfl (gcD_free (cfs_free1 h_R))) (gcH_cons (gcO_row (by rfl) rfl (gcD_free (ints_free1 _))) (gcH_cons (gcO_row (by rfl) rfl (gcD_free (ints_free1 _))) (gcH_cons (gcO_rowE (by rfl) rfl (gcD_cons (gcV_slice rfl) (gcD_cons (gcV_slice rfl) gcD_nil)) rfl) (gcH_cons (gcO_row (by rfl) rfl (gcD_free (cfs_free1 h_K))) gcH_nil))))))))) (by kernel_rfl)), ?_, ?_⟩
          · rw [wr1 (by omega) (by omega)]; exact ⟨by omega, by omega⟩
          · rw [wr1 (by omega) (by omega)]; omega
        · have p22 := g22; try simp only [d1, d2, d3, d4, d5, d6, d7, d8, d9] at p22
          refine k_exit ?_
          refine e_seq_exit ?_
          refine e_loop_exit ?_
          refine e_block_eq ?_
          refine e_seq ?_
          refine k_seq ?_
          refine k_region hP hC ?_
          refine os (x_assign rfl (by rfl)) ?_
          refine o_done ?_
          refine e_seq ?_
          refine k_seq ?_
          refine k_seq ?_
          refine k_region hP hC ?_
          refine os (x_assign rfl (by rfl)) ?_
          refine o_done ?_
          refine e_seq ?_
          refine k_block ?_
          refine k_loop (α := Int × Int) (fun z => match z with | (n, i) => cst 110 [2, 3, 9, 10, 11, 12, 13, 15, 16] [s_w, s_a, .slice (some ⟨3, 0, none⟩) A.length (A.length + 46), .slice (some ⟨4, 0, none⟩) R.length (R.length + 22), .pointer (some ⟨7, 0, none⟩), .int .i64 0, .slice (some ⟨8, 0, none⟩) (keptL W A).length ((keptL W A).length + 46), .int .i64 n, .int .i64 i] [.row (ints l) 0 BIG true (ints l).length, .row (ints w) 1 BIG true (ints w).length, .row (ints a) 2 BIG true (ints a).length, .row A.flatten 3 BIG false A.flatten.length, .row R.flatten 4 BIG false R.flatten.length, .row (ints W) 5 BIG false (ints W).length, .row (ints AA) 6 BIG false (ints AA).length, .row [.slice (some ⟨5, 0, none⟩) W.length (W.length + 1), .slice (some ⟨6, 0, none⟩) AA.length (AA.length + 1)] 7 BIG false 2, .row (keptZ A W).flatten 8 BIG false (keptZ A W).flatten.length] 3) (fun z => match z with | (n, i) => 0 ≤ i ∧ i ≤ A.length ∧ 0 ≤ n ∧ (keptL W (A.take i.toNat)).length + n = i) (fun z => match z with | (_, i) => (A.length - i).toNat) (0, 0) (to_mk (L := [0, 1, 2, 3, 4, 5, 6, 7, 8]) (slots := [2, 3, 9, 10, 11, 12, 13, 15, 16]) (w := 3) (by kernel_rfl) (gcVs_cons rfl (gcV_sl hs_w rfl) (gcVs_cons rfl (gcV_sl hs_a rfl) (gcVs_cons rfl (gcV_slice rfl) (gcVs_cons rfl (gcV_slice rfl) (gcVs_cons rfl (gcV_ptr rfl) (gcVs_cons rfl gFre (gcVs_cons rfl (gcV_slice rfl) (gcVs_cons rfl gFre (gcVs_cons rfl gFre gcVs_nil))))))))) (gcH_cons gOld (gcH_cons gOld (gcH_cons gOld (gcH_cons (gcO_row (by rfl) rfl (gcD_free (cfs_free1 h_A))) (gcH_cons (gcO_row (by rfl) rfl (gcD_free (cfs_free1 h_R))) (gcH_cons (gcO_row (by rfl) rfl (gcD_free (ints_free1 _))) (gcH_cons (gcO_row (by rfl) rfl (gcD_free (ints_free1 _))) (gcH_cons (gcO_rowE (by rfl) rfl (gcD_cons (gcV_slice rfl) (gcD_cons (gcV_slice rfl) gcD_nil)) rfl) (gcH_cons (gcO_row (by rfl) rfl (gcD_free (cfs_free1 h_K))) gcH_nil))))))))) (by kernel_rfl)) ⟨by omega, by omega, by omega, rfl⟩ ?_
          rintro ⟨n, i⟩ ⟨h0, h1, h2, h3⟩
          refine k_cst rfl rfl rfl ?_
          refine k_seq ?_
          refine k_seq ?_
          refine k_region hP hC ?_
          refine om ?_
          refine om ?_
          refine os (x_len rfl rfl rfl rfl Try.underlying23) ?_
          refine os (x_bin rfl rfl rfl b_lss) ?_
          refine o_done ?_
          refine e_seq ?_
          refine k_cond rfl (fun g26 => ?_) (fun g26 => ?_)
          · have p26 := g26; try simp only [d1, d2, d3, d4, d5, d6, d7, d8, d9] at p26
            refine k_skip ?_
            refine e_seq ?_
            refine k_seq ?_
            refine k_block ?_
            refine k_seq ?_
            refine k_draw hP hC (by kernel_rfl) ?_
            refine ds (x_field (off' := 0) rfl rfl Try.underlying56 rfl T.s22 rfl) ?_
            refine ds (x_load1 rfl rfl T.g22 (by first | exact l_boxI (whole_row rfl rfl) (by (first | assumption | (exact cf_nth (by assumption) (by omega) (by omega)))) rfl | exact l_boxS (whole_row rfl rfl) (by (first | assumption | (exact cf_nth (by assumption) (by omega) (by omega)))) rfl | (simp only [loadC, AH.fam, Tr.get_set, reduceIte, Nat.reduceEqDiff, Nat.reduceAdd, Fam.rb, List.drop_zero, List.drop_succ_cons, List.take_succ_cons, List.take_zero, List.length_cons, List.length_nil, Nat.zero_le, Nat.reduceLeDiff, and_self, true_and] <;> rfl))) ?_
            refine dm ?_
            refine dm ?_
            refine ds (x_index rfl rfl rfl Try.underlying23 T.s43 (by omega) (by omega)) ?_
            refine ds (x_field0 rfl rfl Try.underlying43 rfl T.s3 rfl) ?_
            refine ds (x_load1 rfl rfl T.g3 (l_partI0 (K := 46) (whole_row rfl rfl) (by assumption) rfl (by omega) (by omega) rfl)) ?_
            refine d_call0 (wA_none rfl) rfl rfl rfl rfl (by decide) ?_
            refine ⟨_, _, _, _, ((tab_miss (by decide)).trans ((tab_miss (by decide)).trans ((tab_miss (by decide)).trans ((tab_miss (by decide)).trans (tab_hit.trans (in_c (rd_whole (by decide) (.inr rfl) (whole_row rfl rfl) (by rw [ints_len, Nat.mul_one]) (ints_free0 _)) (by rw [ok_in, decide_eq_true hWb]))))))), ?_⟩
            refine d_done ⟨by kernel_rfl, ?_⟩
            refine e_seq ?_
            refine k_cond rfl (fun g28 => ?_) (fun g28 => ?_)
            · have p28 := g28; try simp only [d1, d2, d3, d4, d5, d6, d7, d8, d9] at p28
              refine k_region hP hC ?_
              refine om ?_
              refine os (x_bin rfl rfl (by rfl) b_add) ?_
              refine oa ?_
              refine o_done ?_
              refine e_block ?_
              refine e_seq ?_
              refine k_region hP hC ?_
              refine om ?_
              refine os (x_bin rfl rfl (by rfl) b_add) ?_
              refine oa ?_
              refine o_done ?_
              refine e_loop ?_
              refine ⟨(IntKind.i64.wrap (n + 1), IntKind.i64.wrap (i + 1)), (to_mk (L := [0, 1, 2, 3, 4, 5, 6, 7, 8]) (slots := [2, 3, 9, 10, 11, 12, 13, 15, 16]) (w := 3) (by kernel_rfl) (gcVs_cons rfl (gcV_sl hs_w rfl) (gcVs_cons rfl (gcV_sl hs_a rfl) (gcVs_cons rfl (gcV_slice rfl) (gcVs_cons rfl (gcV_slice rfl) (gcVs_cons rfl (gcV_ptr rfl) (gcVs_cons rfl gFre (gcVs_cons rfl (gcV_slice rfl) (gcVs_cons rfl gFre (gcVs_cons rfl gFre gcVs_nil))))))))) (gcH_cons gOld (gcH_cons gOld (gcH_cons gOld (gcH_cons (gcO_row (by rfl) rfl (gcD_free (cfs_free1 h_A))) (gcH_cons (gcO_row (by rfl) rfl (gcD_free (cfs_free1 h_R))) (gcH_cons (gcO_row (by rfl) rfl (gcD_free (ints_free1 _))) (gcH_cons (gcO_row (by rfl) rfl (gcD_free (ints_free1 _))) (gcH_cons (gcO_rowE (by rfl) rfl (gcD_cons (gcV_slice rfl) (gcD_cons (gcV_slice rfl) gcD_nil)) rfl) (gcH_cons (gcO_row (by rfl) rfl (gcD_free (cfs_free1 h_K))) gcH_nil))))))))) (by kernel_rfl)), ?_, ?_⟩
              · rw [wr1 (by omega) (by omega)]; rw [wr1 (by omega) (by omega)]; exact ⟨by omega, by omega, by omega, by rw [gone_in h0 (by omega) (by assumption)]; omega⟩
              · show (A.length - IntKind.i64.wrap (i + 1)).toNat < (A.length - i).toNat; rw [wr1 (by omega) (by omega)]; omega
            · have p28 := g28; try simp only [d1, d2, d3, d4, d5, d6, d7, d8, d9] at p28
              refine k_skip ?_
              refine e_block ?_
              refine e_seq ?_
              refine k_region hP hC ?_
              refine om ?_
              refine os (x_bin rfl rfl (by rfl) b_add) ?_
              refine oa ?_
              refine o_done ?_
              refine e_loop ?_
              refine ⟨(n, IntKind.i64.wrap (i + 1)), (to_mk (L := [0, 1, 2, 3, 4, 5, 6, 7, 8]) (slots := [2, 3, 9, 10, 11, 12, 13, 15, 16]) (w := 3) (by kernel_rfl) (gcVs_cons rfl (gcV_sl hs_w rfl) (gcVs_cons rfl (gcV_sl hs_a rfl) (gcVs_cons rfl (gcV_slice rfl) (gcVs_cons rfl (gcV_slice rfl) (gcVs_cons rfl (gcV_ptr rfl) (gcVs_cons rfl gFre (gcVs_cons rfl (gcV_slice rfl) (gcVs_cons rfl gFre (gcVs_cons rfl gFre gcVs_nil))))))))) (gcH_cons gOld (gcH_cons gOld (gcH_cons gOld (gcH_cons (gcO_row (by rfl) rfl (gcD_free (cfs_free1 h_A))) (gcH_cons (gcO_row (by rfl) rfl (gcD_free (cfs_free1 h_R))) (gcH_cons (gcO_row (by rfl) rfl (gcD_free (ints_free1 _))) (gcH_cons (gcO_row (by rfl) rfl (gcD_free (ints_free1 _))) (gcH_cons (gcO_rowE (by rfl) rfl (gcD_cons (gcV_slice rfl) (gcD_cons (gcV_slice rfl) gcD_nil)) rfl) (gcH_cons (gcO_row (by rfl) rfl (gcD_free (cfs_free1 h_K))) gcH_nil))))))))) (by kernel_rfl)), ?_, ?_⟩
              · rw [wr1 (by omega) (by omega)]; exact ⟨by omega, by omega, by omega, by rw [gone_out h0 (by omega) (by assumption)]; omega⟩
              · show (A.length - IntKind.i64.wrap (i + 1)).toNat < (A.length - i).toNat; rw [wr1 (by omega) (by omega)]; omega
          · have p26 := g26; try simp only [d1, d2, d3, d4, d5, d6, d7, d8, d9] at p26
            refine k_exit ?_
            refine e_seq_exit ?_
            refine e_loop_exit ?_
            refine e_block_eq ?_
            refine e_seq ?_
            refine k_seq ?_
            refine k_region hP hC ?_
            refine om ?_
            refine om ?_
            refine os (x_build (v := .agg ⟨[s_w, s_a]⟩) rfl rfl T.z56 rfl (by obtain ⟨ad, c, e⟩ := hs_w.shape; obtain ⟨ad2, c2, e2⟩ := hs_a.shape; rw [e, e2]; kernel_rfl)) ?_
            refine os (y_alloc rfl T.z56 rfl rfl) ?_
            refine o_stepN (wA_none rfl) rfl (y_storeA rfl (by simp only [Tr.get_set, reduceIte, Nat.reduceEqDiff, Nat.reduceAdd, ev_tmp, g26] <;> rfl) (by simp only [Tr.get_set, reduceIte, Nat.reduceEqDiff, Nat.reduceAdd, ev_tmp, g26] <;> rfl) T.s56 rfl (by simp only [Tr.get_set, reduceIte, Nat.reduceEqDiff, Nat.reduceAdd] <;> rfl) rfl rfl (sl_one2 hs_w hs_a)) ?_
            refine o_done ?_
            refine e_seq ?_
            refine k_seq ?_
            refine k_region hP hC ?_
            refine om ?_
            refine om ?_
            refine o_step (wA_none rfl) rfl (x_loadA' rfl (by simp only [Tr.get_set, reduceIte, Nat.reduceEqDiff, Nat.reduceAdd, ev_tmp, g26] <;> rfl) T.g56 T.s56 (by simp only [Tr.get_set, reduceIte, Nat.reduceEqDiff, Nat.reduceAdd] <;> rfl) rfl (Nat.le_of_ble_eq_true rfl) rfl) (by decide) ?_
            refine o_call0 (wA_none rfl) rfl rfl rfl rfl (by decide) ?_
            refine ⟨_, _, ((tab_miss (by decide)).trans ((tab_miss (by decide)).trans ((tab_miss (by decide)).trans ((tab_miss (by decide)).trans ((tab_miss (by decide)).trans (tab_hit.trans (check_c (L := A) (R := R) (rd_whole (by decide) (.inr rfl) (whole_row (by simp only [Tr.get_set, reduceIte, Nat.reduceEqDiff, Nat.reduceAdd] <;> rfl) rfl) (cfs_len h_A).symm (cfs_free0 h_A)) h_A (rd_whole (by decide) (.inr rfl) (whole_row (by simp only [Tr.get_set, reduceIte, Nat.reduceEqDiff, Nat.reduceAdd] <;> rfl) rfl) (cfs_len h_R).symm (cfs_free0 h_R)) h_R (rd_sl hs_w (by decide) (whole_row (by simp only [Tr.get_set, reduceIte, Nat.reduceEqDiff, Nat.reduceAdd] <;> rfl) rfl) (by rw [ints_len, Nat.mul_one]) (ints_free0 _)) (rd_sl hs_a (by decide) (whole_row (by simp only [Tr.get_set, reduceIte, Nat.reduceEqDiff, Nat.reduceAdd] <;> rfl) rfl) (by rw [ints_len, Nat.mul_one]) (ints_free0 _)) okk2))))))), ?_⟩
            refine os (x_bin rfl rfl (by rfl) b_eql) ?_
            refine oa ?_
            refine o_done ?_
            refine e_seq ?_
            refine k_seq ?_
            refine k_region hP hC ?_
            refine om ?_
            refine os (x_bin (u := .bool true) rfl rfl (by rfl) (by rw [b_eql]; rfl)) ?_
            refine om ?_
            refine o_step (wA_on rfl rfl (by simp only [Tr.get_set, reduceIte, Nat.reduceEqDiff, Nat.reduceAdd, g26] <;> rfl)) rfl (x_move rfl rfl) (by decide) ?_
            refine o_step (wA_on rfl rfl (by simp only [Tr.get_set, reduceIte, Nat.reduceEqDiff, Nat.reduceAdd, g26] <;> rfl)) rfl (x_len rfl rfl rfl rfl Try.underlying23) (by decide) ?_
            refine o_step (wA_on rfl rfl (by simp only [Tr.get_set, reduceIte, Nat.reduceEqDiff, Nat.reduceAdd, g26] <;> rfl)) rfl (x_move rfl rfl) (by decide) ?_
            refine o_step (wA_on rfl rfl (by simp only [Tr.get_set, reduceIte, Nat.reduceEqDiff, Nat.reduceAdd, g26] <;> rfl)) rfl (x_bin rfl rfl rfl b_add) (by decide) ?_
            refine o_step (wA_on rfl rfl (by simp only [Tr.get_set, reduceIte, Nat.reduceEqDiff, Nat.reduceAdd, g26] <;> rfl)) rfl (x_move rfl rfl) (by decide) ?_
            refine o_step (wA_on rfl rfl (by simp only [Tr.get_set, reduceIte, Nat.reduceEqDiff, Nat.reduceAdd, g26] <;> rfl)) rfl (x_len rfl rfl rfl rfl Try.underlying23) (by decide) ?_
            refine o_step (wA_on rfl rfl (by simp only [Tr.get_set, reduceIte, Nat.reduceEqDiff, Nat.reduceAdd, g26] <;> rfl)) rfl (x_bin (u := .bool true) rfl rfl rfl (by rw [b_eql]; congr 2; exact decide_eq_true (gone_end (by omega) h3 hAb))) (by decide) ?_
            refine os (x_pick rfl (by simp only [Tr.get_set, reduceIte, Nat.reduceEqDiff, Nat.reduceAdd, ev_tmp, g26] <;> rfl) (by simp only [if_true, if_false, Bool.false_eq_true, ev_tmp, Tr.get_set, reduceIte, Nat.reduceEqDiff, Nat.reduceAdd, g26]; rfl)) ?_
            refine om ?_
            refine o_step (wA_on rfl rfl (by simp only [Tr.get_set, reduceIte, Nat.reduceEqDiff, Nat.reduceAdd, g26] <;> rfl)) rfl (x_move rfl rfl) (by decide) ?_
            refine o_step (wA_on rfl rfl (by simp only [Tr.get_set, reduceIte, Nat.reduceEqDiff, Nat.reduceAdd, g26] <;> rfl)) rfl (x_move rfl rfl) (by decide) ?_
            refine o_step (wA_on rfl rfl (by simp only [Tr.get_set, reduceIte, Nat.reduceEqDiff, Nat.reduceAdd, g26] <;> rfl)) rfl (x_loadA' rfl (by simp only [Tr.get_set, reduceIte, Nat.reduceEqDiff, Nat.reduceAdd, ev_tmp, g26] <;> rfl) T.g56 T.s56 (by simp only [Tr.get_set, reduceIte, Nat.reduceEqDiff, Nat.reduceAdd] <;> rfl) rfl (Nat.le_of_ble_eq_true rfl) rfl) (by decide) ?_
            refine o_call0 (wA_on rfl rfl (by simp only [Tr.get_set, reduceIte, Nat.reduceEqDiff, Nat.reduceAdd, g26] <;> rfl)) rfl rfl rfl rfl (by decide) ?_
            refine ⟨_, _, ((tab_miss (by decide)).trans ((tab_miss (by decide)).trans ((tab_miss (by decide)).trans ((tab_miss (by decide)).trans ((tab_miss (by decide)).trans (tab_hit.trans (check_cZ (L := A) (R := R) (rd_whole (by decide) (.inr rfl) (whole_row (by simp only [Tr.get_set, reduceIte, Nat.reduceEqDiff, Nat.reduceAdd] <;> rfl) rfl) (cfs_len h_A).symm (cfs_free0 h_A)) h_A (rd_whole (by decide) (.inr rfl) (whole_row (by simp only [Tr.get_set, reduceIte, Nat.reduceEqDiff, Nat.reduceAdd] <;> rfl) rfl) (cfs_len h_R).symm (cfs_free0 h_R)) h_R (rd_whole (by decide) (.inr rfl) (whole_row (by simp only [Tr.get_set, reduceIte, Nat.reduceEqDiff, Nat.reduceAdd] <;> rfl) rfl) (by rw [ints_len, Nat.mul_one]) (ints_free0 _)) (rd_whole (by decide) (.inr rfl) (whole_row (by simp only [Tr.get_set, reduceIte, Nat.reduceEqDiff, Nat.reduceAdd] <;> rfl) rfl) (by rw [ints_len, Nat.mul_one]) (ints_free0 _)) okk1 hCk))))))), ?_⟩
            refine o_step (wA_on rfl rfl (by simp only [Tr.get_set, reduceIte, Nat.reduceEqDiff, Nat.reduceAdd, g26] <;> rfl)) rfl (x_bin (u := .bool true) rfl rfl (by rfl) (by rw [b_eql]; rfl)) (by decide) ?_
            refine os (x_pick rfl (by simp only [Tr.get_set, reduceIte, Nat.reduceEqDiff, Nat.reduceAdd, ev_tmp, g26] <;> rfl) (by simp only [if_true, if_false, Bool.false_eq_true, ev_tmp, Tr.get_set, reduceIte, Nat.reduceEqDiff, Nat.reduceAdd, g26]; rfl)) ?_
            refine om ?_
            refine o_step (wA_on rfl rfl (by simp only [Tr.get_set, reduceIte, Nat.reduceEqDiff, Nat.reduceAdd, g26] <;> rfl)) rfl (x_move rfl rfl) (by decide) ?_
            refine o_step (wA_on rfl rfl (by simp only [Tr.get_set, reduceIte, Nat.reduceEqDiff, Nat.reduceAdd, g26] <;> rfl)) rfl (x_not rfl rfl) (by decide) ?_
            refine o_step (wA_on rfl rfl (by simp only [Tr.get_set, reduceIte, Nat.reduceEqDiff, Nat.reduceAdd, g26] <;> rfl)) rfl (x_move rfl rfl) (by decide) ?_
            refine o_guard rfl rfl rfl (fun g31 => ?_) (fun g31 => ?_)
            · have p31 := g31; try simp only [d1, d2, d3, d4, d5, d6, d7, d8, d9] at p31
              refine o_skip (wA_off rfl rfl (by simp only [Tr.get_set, reduceIte, Nat.reduceEqDiff, Nat.reduceAdd, g26, g31] <;> rfl)) rfl (by decide) ?_
              refine o_skip (wA_off rfl rfl (by simp only [Tr.get_set, reduceIte, Nat.reduceEqDiff, Nat.reduceAdd, g26, g31] <;> rfl)) rfl (by decide) ?_
              refine o_skip (wA_off rfl rfl (by simp only [Tr.get_set, reduceIte, Nat.reduceEqDiff, Nat.reduceAdd, g26, g31] <;> rfl)) rfl (by decide) ?_
              refine o_skip (wA_off rfl rfl (by simp only [Tr.get_set, reduceIte, Nat.reduceEqDiff, Nat.reduceAdd, g26, g31] <;> rfl)) rfl (by decide) ?_
              refine o_step (wA_on rfl rfl (by simp only [Tr.get_set, reduceIte, Nat.reduceEqDiff, Nat.reduceAdd, g26, g31] <;> rfl)) rfl (x_pick rfl (by simp only [Tr.get_set, reduceIte, Nat.reduceEqDiff, Nat.reduceAdd, ev_tmp, g26, g31] <;> rfl) (by simp only [if_true, if_false, Bool.false_eq_true, ev_tmp, Tr.get_set, reduceIte, Nat.reduceEqDiff, Nat.reduceAdd, g26, g31]; rfl)) (by decide) ?_
              refine os (x_pick rfl (by simp only [Tr.get_set, reduceIte, Nat.reduceEqDiff, Nat.reduceAdd, ev_tmp, g26, g31] <;> rfl) (by simp only [if_true, if_false, Bool.false_eq_true, ev_tmp, Tr.get_set, reduceIte, Nat.reduceEqDiff, Nat.reduceAdd, g26, g31]; rfl)) ?_
              refine om ?_
              refine o_call0 (wA_on rfl rfl (by simp only [Tr.get_set, reduceIte, Nat.reduceEqDiff, Nat.reduceAdd, g26, g31] <;> rfl)) rfl rfl rfl rfl (by decide) ?_
              refine ⟨_, _, ((tab_miss (by decide)).trans ((tab_miss (by decide)).trans ((tab_miss (by decide)).trans ((tab_miss (by decide)).trans ((tab_miss (by decide)).trans ((tab_miss (by decide)).trans ((tab_miss (by decide)).trans (tab_hit.trans lives_c)))))))), ?_⟩
              refine os (x_pick rfl (by simp only [Tr.get_set, reduceIte, Nat.reduceEqDiff, Nat.reduceAdd, ev_tmp, g26, g31] <;> rfl) (by simp only [if_true, if_false, Bool.false_eq_true, ev_tmp, Tr.get_set, reduceIte, Nat.reduceEqDiff, Nat.reduceAdd, g26, g31]; rfl)) ?_
              refine oa ?_
              refine o_done ?_
              refine e_seq ?_
              refine k_ret ?_
              refine gives_mk (L := [0, 1, 2]) (slots := [8]) (w := 3) (.inr rfl) (by kernel_rfl) (gcVs_cons (by simp only [Tr.get_set, reduceIte, Nat.reduceEqDiff, Nat.reduceAdd, g26, g31] <;> rfl) (gcV_free rfl) gcVs_nil) (gcH_cons (gcO_old (by rfl) (by simp only [Tr.get_set, reduceIte, Nat.reduceEqDiff, Nat.reduceAdd] <;> rfl)) (gcH_cons (gcO_old (by rfl) (by simp only [Tr.get_set, reduceIte, Nat.reduceEqDiff, Nat.reduceAdd] <;> rfl)) (gcH_cons (gcO_old (by rfl) (by simp only [Tr.get_set, reduceIte, Nat.reduceEqDiff, Nat.reduceAdd] <;> rfl)) gcH_nil))) (by kernel_rfl) (by simp only [Try.results6, resA, cst, mkE, Tr.get_set, reduceIte, Nat.reduceEqDiff, Nat.reduceAdd] <;> rfl) ?_
              rfl
            · have p31 := g31; try simp only [d1, d2, d3, d4, d5, d6, d7, d8, d9] at p31
              refine o_step (wA_on rfl rfl (by simp only [Tr.get_set, reduceIte, Nat.reduceEqDiff, Nat.reduceAdd, g26, g31] <;> rfl)) rfl (x_move rfl rfl) (by decide) ?_
              refine o_step (wA_on rfl rfl (by simp only [Tr.get_set, reduceIte, Nat.reduceEqDiff, Nat.reduceAdd, g26, g31] <;> rfl)) rfl (x_field (off' := 0) rfl rfl Try.underlying56 rfl T.s22 rfl) (by decide) ?_
              refine o_step (wA_on rfl rfl (by simp only [Tr.get_set, reduceIte, Nat.reduceEqDiff, Nat.reduceAdd, g26, g31] <;> rfl)) rfl (x_load1 rfl rfl T.g22 (by first | exact l_boxI (whole_row rfl rfl) (by (first | assumption | (exact cf_nth (by assumption) (by omega) (by omega)))) rfl | exact l_boxS (whole_row rfl rfl) (by (first | assumption | (exact cf_nth (by assumption) (by omega) (by omega)))) rfl | (simp only [loadC, AH.fam, Tr.get_set, reduceIte, Nat.reduceEqDiff, Nat.reduceAdd, Fam.rb, List.drop_zero, List.drop_succ_cons, List.take_succ_cons, List.take_zero, List.length_cons, List.length_nil, Nat.zero_le, Nat.reduceLeDiff, and_self, true_and] <;> rfl))) (by decide) ?_
              refine o_call0 (wA_on rfl rfl (by simp only [Tr.get_set, reduceIte, Nat.reduceEqDiff, Nat.reduceAdd, g26, g31] <;> rfl)) rfl rfl rfl rfl (by decide) ?_
              refine ⟨_, _, ((tab_miss (by decide)).trans ((tab_miss (by decide)).trans ((tab_miss (by decide)).trans ((tab_miss (by decide)).trans ((tab_miss (by decide)).trans ((tab_miss (by decide)).trans (tab_hit.trans (same01_cT (rd_sl hs_w (by decide) (whole_row (by simp only [Tr.get_set, reduceIte, Nat.reduceEqDiff, Nat.reduceAdd] <;> rfl) rfl) (by rw [ints_len, Nat.mul_one]) (ints_free0 _)) (rd_whole (by decide) (.inr rfl) (whole_row (by simp only [Tr.get_set, reduceIte, Nat.reduceEqDiff, Nat.reduceAdd] <;> rfl) rfl) (by rw [ints_len, Nat.mul_one]) (ints_free0 _)) hwb (hAcc (by simpa using g31)))))))))), ?_⟩
              refine o_step (wA_on rfl rfl (by simp only [Tr.get_set, reduceIte, Nat.reduceEqDiff, Nat.reduceAdd, g26, g31] <;> rfl)) rfl (x_pick rfl (by simp only [Tr.get_set, reduceIte, Nat.reduceEqDiff, Nat.reduceAdd, ev_tmp, g26, g31] <;> rfl) (by simp only [if_true, if_false, Bool.false_eq_true, ev_tmp, Tr.get_set, reduceIte, Nat.reduceEqDiff, Nat.reduceAdd, g26, g31]; rfl)) (by decide) ?_
              refine os (x_pick rfl (by simp only [Tr.get_set, reduceIte, Nat.reduceEqDiff, Nat.reduceAdd, ev_tmp, g26, g31] <;> rfl) (by simp only [if_true, if_false, Bool.false_eq_true, ev_tmp, Tr.get_set, reduceIte, Nat.reduceEqDiff, Nat.reduceAdd, g26, g31]; rfl)) ?_
              refine om ?_
              refine o_call0 (wA_on rfl rfl (by simp only [Tr.get_set, reduceIte, Nat.reduceEqDiff, Nat.reduceAdd, g26, g31] <;> rfl)) rfl rfl rfl rfl (by decide) ?_
              refine ⟨_, _, ((tab_miss (by decide)).trans ((tab_miss (by decide)).trans ((tab_miss (by decide)).trans ((tab_miss (by decide)).trans ((tab_miss (by decide)).trans ((tab_miss (by decide)).trans ((tab_miss (by decide)).trans (tab_hit.trans lives_c)))))))), ?_⟩
              refine os (x_pick rfl (by simp only [Tr.get_set, reduceIte, Nat.reduceEqDiff, Nat.reduceAdd, ev_tmp, g26, g31] <;> rfl) (by simp only [if_true, if_false, Bool.false_eq_true, ev_tmp, Tr.get_set, reduceIte, Nat.reduceEqDiff, Nat.reduceAdd, g26, g31]; rfl)) ?_
              refine oa ?_
              refine o_done ?_
              refine e_seq ?_
              refine k_ret ?_
              refine gives_mk (L := [0, 1, 2]) (slots := [8]) (w := 3) (.inr rfl) (by kernel_rfl) (gcVs_cons (by simp only [Tr.get_set, reduceIte, Nat.reduceEqDiff, Nat.reduceAdd, g26, g31] <;> rfl) (gcV_free rfl) gcVs_nil) (gcH_cons (gcO_old (by rfl) (by simp only [Tr.get_set, reduceIte, Nat.reduceEqDiff, Nat.reduceAdd] <;> rfl)) (gcH_cons (gcO_old (by rfl) (by simp only [Tr.get_set, reduceIte, Nat.reduceEqDiff, Nat.reduceAdd] <;> rfl)) (gcH_cons (gcO_old (by rfl) (by simp only [Tr.get_set, reduceIte, Nat.reduceEqDiff, Nat.reduceAdd] <;> rfl)) gcH_nil))) (by kernel_rfl) (by simp only [Try.results6, resA, cst, mkE, Tr.get_set, reduceIte, Nat.reduceEqDiff, Nat.reduceAdd] <;> rfl) ?_
              rfl

theorem con_left : Con Try.prog 6 c_left := con_flat Try.func6 rfl fun us cs v new h => by
  unfold spec_left at h
  split at h
  case h_2 => cases h
  rename_i s_l bits s_w s_a c_l c_w c_a
  split at h
  case isFalse => cases h
  rename_i hc
  try simp only [Bool.and_eq_true] at hc
  obtain ⟨⟨⟨⟨⟨⟨q_l, r_l⟩, q_w⟩, r_w⟩, q_a⟩, r_a⟩, hok⟩ := hc
  cases h
  have e_l := ints_unints r_l
  have hs_l := slOk_sl (n := (unints c_l).length) q_l (by decide) (by rw [← ints_len, e_l, Nat.mul_one])
  have e_w := ints_unints r_w
  have hs_w := slOk_sl (n := (unints c_w).length) q_w (by decide) (by rw [← ints_len, e_w, Nat.mul_one])
  have e_a := ints_unints r_a
  have hs_a := slOk_sl (n := (unints c_a).length) q_a (by decide) (by rw [← ints_len, e_a, Nat.mul_one])
  have key := left_m hs_l hs_w hs_a hok
  have hrows : [ints (unints c_l), ints (unints c_w), ints (unints c_a)] = [c_l, c_w, c_a] := by rw [e_l, e_w, e_a]
  rw [← hrows]
  exact key
theorem left_c {H : AH} {s_l : Value} {s_w : Value} {s_a : Value} {l : List Int} {bits : Int} {w : List Int} {a : List Int} (hr_l : Rd H 1 s_l l.length (ints l)) (hr_w : Rd H 1 s_w w.length (ints w)) (hr_a : Rd H 1 s_a a.length (ints a)) (hok : ok_left l bits w a = true) : c_left [s_l, .int .i64 bits, s_w, s_a] H = some (.bool true, H) := by
  obtain ⟨u_l, a_l, b_l⟩ := hr_l 0
  obtain ⟨u_w, a_w, b_w⟩ := hr_w 1
  obtain ⟨u_a, a_a, b_a⟩ := hr_a 2
  exact flatC_at (v := val_left l bits w a) (new := new_left l bits w a) (cl_sl a_l (cl_fr rfl (cl_sl a_w (cl_sl a_a cl_nil)))) (by simp only [spec_left, sl_slOk b_l (by rw [ints_len, Nat.mul_one]), isInts_ints, unints_ints, sl_slOk b_w (by rw [ints_len, Nat.mul_one]), sl_slOk b_a (by rw [ints_len, Nat.mul_one]), hok, Bool.and_self, if_true]) (rfl) gFre

end Go.Proofs.Ytohhcnehcjpekaa
