/-
  The law TrustSure: her walk.
-/
import Derived.Test.YtohhcnehcjpekaaSLg
import Derived.Test.YtohhcnehcjpekaaSLh
import Derived.Test.YtohhcnehcjpekaaSLq
import Derived.Test.YtohhcnehcjpekaaSA3
namespace Go.Proofs.Ytohhcnehcjpekaa
open Go.AM
set_option maxRecDepth 100000
set_option maxHeartbeats 1000000
set_option linter.unusedSimpArgs false
set_option linter.unusedVariables false

theorem RdS.at {t t' : Tr AObj} {nx nx' wr k n : Nat} {v : Value} {d : List Value} (h : RdS t nx k v n d) (hk : 0 < k) (hf : d.all free0 = true) (hh : ∀ id, id < nx → t'.get id = t.get id) : Rd ⟨t', nx', wr⟩ k v n d := (h.keep (Nat.le_refl _) hh).rd hk hf
theorem made_cE {H : AH} {s_l : Value} {l : List Int} {most bits : Int} {A R : List (List Value)} (hA : A = mkA l bits (min (l.length : Int) most)) (hR : R = mkR l (min (l.length : Int) most)) (hr : Rd H 1 s_l l.length (ints l)) (hok : ok_made l most bits = true) :
    c_made [s_l, .int .i64 most, .int .i64 bits] H = some (.tuple ⟨[outV H.next 46 A.length, outV (H.next + 1) 22 R.length]⟩, addRows H (outN A.length A.flatten ++ outN R.length R.flatten)) := by
  subst hA; subst hR
  exact made_c hr hok
theorem judge_cE {H : AH} {s_L s_R : Value} {L R : List (List Value)} {W AA : List Int} (hW : W = judgeW L R) (hAA : AA = judgeA L R) (hr_L : Rd H 46 s_L L.length L.flatten) (h_L : cfs T.K43 L) (hlr : L.length = R.length) (hr_R : Rd H 22 s_R L.length R.flatten) (h_R : cfs T.K41 R) (hb : L.length ≤ 1000) (hE : judgeE L R = 0) :
    c_judge [s_L, s_R] H = some (.tuple ⟨[.agg ⟨[outV H.next 1 W.length, outV (H.next + 1) 1 AA.length]⟩, .int .i64 0]⟩, addRows H (outN W.length (ints W) ++ outN AA.length (ints AA))) := by
  rw [hlr] at hr_R
  have q := judge_c hr_L h_L hr_R h_R (by rw [ok_judge, decide_eq_true hb])
  rw [hE] at q
  subst hW; subst hAA
  exact q
theorem least_cE {H : AH} {s_L : Value} {L : List (List Value)} {M : List Int} (hM : M = leastL L) (hr : Rd H 46 s_L L.length L.flatten) (h_L : cfs T.K43 L) (hb : L.length ≤ 1000) (ho : L.any oddC = false) :
    c_least [s_L] H = some (.tuple ⟨[outV H.next 1 M.length, .int .i64 0]⟩, addRows H (outN M.length (ints M))) := by
  have q := least_c hr h_L (by rw [ok_least, decide_eq_true hb])
  rw [ho] at q
  subst hM
  exact q
theorem agreed_cE {H : AH} {s_L : Value} {L SA : List (List Value)} {F : Int} (hS : SA = agreedL L F) (hr : Rd H 46 s_L L.length L.flatten) (h_L : cfs T.K43 L) (hb : L.length ≤ 1000) :
    c_agreed [s_L, .int .i64 F] H = some (outV H.next 46 SA.length, addRows H (outN SA.length SA.flatten)) := by
  subst hS
  exact agreed_c hr h_L (by rw [ok_agreed, decide_eq_true hb])
theorem mk_nil : Mk [] [] := ⟨rfl, cfs_nil, cfs_nil, rfl, fun x h => (by cases h), fun i h0 h1 => (by simp at h1; omega)⟩
theorem x_notT {P : Program} {call : Call'} {e : Tr Value} {h : AH} {o : Oper} {T : TypeId} {x : Operand} (ho : o.op = .unOp .not T x) (hx : ev e x = some (.bool true)) : doOp P call e h o = some (.bool false, h) := x_not ho hx
theorem intsLen {l : List Int} : (ints l).length = l.length * 1 := by rw [ints_len, Nat.mul_one]
theorem seed22 {x : List Value} : seedC (askC x) = intAt x 22 := by
  unfold seedC intAt
  rw [List.getElem?_take, if_pos (by decide), List.getElem?_drop]
theorem least_len6 {L : List (List Value)} : (leastL L).length ≤ 6 := by
  unfold leastL
  cases hf : (combs 0 six ++ (combs 1 six ++ (combs 2 six ++ (combs 3 six ++ (combs 4 six ++ (combs 5 six ++ combs 6 six)))))).find? (explainL L) with
  | none => decide
  | some w =>
    have hm := List.mem_of_find?_eq_some hf
    have key : (combs 0 six ++ (combs 1 six ++ (combs 2 six ++ (combs 3 six ++ (combs 4 six ++ (combs 5 six ++ combs 6 six)))))).all (fun w => decide (w.length ≤ 6)) = true := by decide +kernel
    exact of_decide_eq_true (List.all_eq_true.1 key w hm)
theorem who_app {s : Int} {L : List (List Value)} {i : Int} (h0 : 0 ≤ i) (h1 : i < L.length) (h2 : intAt (nth L i) 22 = s) (h3 : ¬ wkr (nth L i) ∈ whoF s (L.take i.toNat)) : whoF s (L.take (i + 1).toNat) = whoF s (L.take i.toNat) ++ [wkr (nth L i)] := by
  rw [who_next h0 h1]
  exact if_pos ⟨seed22.trans h2, h3⟩
theorem who_skip {s : Int} {L : List (List Value)} {i : Int} (h0 : 0 ≤ i) (h1 : i < L.length) (h : ¬ intAt (nth L i) 22 = s ∨ wkr (nth L i) ∈ whoF s (L.take i.toNat)) : whoF s (L.take (i + 1).toNat) = whoF s (L.take i.toNat) := by
  rw [who_next h0 h1]
  refine if_neg ?_
  rintro ⟨a, b⟩
  rcases h with h | h
  · exact h (seed22.symm.trans a)
  · exact b h
theorem cnt_next {s : Int} {M : List (List Value)} {i : Int} (h0 : 0 ≤ i) (h1 : i < M.length) : cntS s (M.take (i + 1).toNat) = cntS s (M.take i.toNat) + if intAt (nth M i) 22 = s then 1 else 0 := by
  rw [take_next h0 h1, ← nth_at h0 h1]
  unfold cntS
  rw [List.filter_append, List.length_append]
  congr 1
  rw [List.filter_cons, seed22]
  by_cases h : intAt (nth M i) 22 = s
  · rw [if_pos (decide_eq_true h), if_pos h]; rfl
  · rw [if_neg (by rw [decide_eq_true_eq]; exact h), if_neg h]; rfl
theorem cnt_take {s : Int} {M : List (List Value)} {n : Nat} : cntS s (M.take n) ≤ n := by
  unfold cntS
  have h1 := List.length_filter_le (fun a => decide (seedC (askC a) = s)) (M.take n)
  have h2 : (M.take n).length ≤ n := by rw [List.length_take]; omega
  omega
theorem agreed_in {L : List (List Value)} {F : Int} {l : List Int} {bits k : Int} {i : Int} (hL : cfs T.K43 L) (hm : ∀ x, x ∈ mkA l bits k ↔ x ∈ L) (h0 : 0 ≤ i) (h1 : i < (agreedL L F).length) : inR (intAt (askC (nth (agreedL L F) i)) 20) := by
  obtain ⟨m, _⟩ := agreed_mem hL (nth_mem h0 h1)
  obtain ⟨j, h2, h3, e⟩ := mk_mem ((hm _).2 m)
  rw [e, ans_ask]
  show inR (sdM (ith l j))
  have := sdM_range (ith l j)
  exact ⟨by omega, by omega⟩

def ok_sure (l : List Int) (bits : Int) (more : Int) (turn : Int) : Bool := decide (inR bits) && decide (inR more) && decide (inR turn) && decide (l.all (fun n => decide (inR n)) = true) && decide (l.length < 4611686018427387904)
def val_sure (l : List Int) (bits : Int) (more : Int) (turn : Int) : Value := .bool true
def new_sure (l : List Int) (bits : Int) (more : Int) (turn : Int) : List (List Value) := []
def spec_sure : Go.AM.Spec := fun us cs => match us, cs with
  | [s_l, .int .i64 bits, .int .i64 more, .int .i64 turn], [c_l] => if slOk 0 1 c_l s_l && isInts c_l && ok_sure (unints c_l) bits more turn then some (val_sure (unints c_l) bits more turn, new_sure (unints c_l) bits more turn) else none
  | _, _ => none
def c_sure := flatC [.sl 1, .fr, .fr, .fr] spec_sure
theorem sure_m {s_l : Value} {l : List Int} {bits : Int} {more : Int} {turn : Int} (hs_l : Sl 0 1 l.length s_l) (hok : ok_sure l bits more turn = true) : Meets Try.prog (.func 7) [s_l, .int .i64 bits, .int .i64 more, .int .i64 turn] (cheap [ints l]) (val_sure l bits more turn) (rheap [ints l] (new_sure l bits more turn)) := by
  have hP := Fits
  have hC : CallSound Try.prog (tabOf [(8, c_made), (23, c_judge), (14, c_around), (16, c_agreed), (18, c_least), (20, c_same01), (32, c_in), (33, c_wrong33), (21, c_lives)]) := tab_sound (tab_cons con_made (tab_cons con_judge (tab_cons con_around (tab_cons con_agreed (tab_cons con_least (tab_cons con_same01 (tab_cons con_in (tab_cons con_wrong33 (tab_cons con_lives tab_end)))))))))
  simp only [ok_sure, Bool.and_eq_true, decide_eq_true_eq] at hok
  obtain ⟨⟨⟨⟨hbt, hmr⟩, htr⟩, hl⟩, hlb⟩ := hok
  obtain ⟨A, hA⟩ : ∃ A, A = mkA l bits (min (l.length : Int) 18) := ⟨_, rfl⟩
  obtain ⟨R, hR⟩ : ∃ R, R = mkR l (min (l.length : Int) 18) := ⟨_, rfl⟩
  have hMk : Mk A R := by rw [hA, hR]; exact Mk.made
  have h_A := hMk.cfA
  have h_R := hMk.cfR
  have hAl := hMk.len
  have hA18 : A.length ≤ 18 := by rw [hA, mkA_len]; omega
  have hAb : A.length ≤ 1000 := by omega
  obtain ⟨d, hdd⟩ : ∃ d, d = around turn A.length := ⟨_, rfl⟩
  have hd0 : 0 ≤ d ∨ A = [] := by
    rcases Nat.eq_zero_or_pos A.length with q | q
    · exact .inr (List.eq_nil_of_length_eq_zero q)
    · exact .inl (by rw [hdd]; exact around_lo (by omega))
  have hdn : d < A.length ∨ A = [] := by
    rcases Nat.eq_zero_or_pos A.length with q | q
    · exact .inr (List.eq_nil_of_length_eq_zero q)
    · exact .inl (by rw [hdd]; exact around_hi (by omega))
  obtain ⟨B, hB⟩ : ∃ B, B = turnL A A.length d A.length := ⟨_, rfl⟩
  obtain ⟨S, hS⟩ : ∃ S, S = turnL R A.length d A.length := ⟨_, rfl⟩
  have hMkB : Mk B S := by
    rcases hd0 with q | q
    · rcases hdn with q2 | q2
      · rw [hB, hS]; exact hMk.turn q q2
      · have e : R = [] := List.eq_nil_of_length_eq_zero (by rw [← hAl, q2]; rfl)
        have e1 : B = [] := by rw [hB, q2]; rfl
        have e2 : S = [] := by rw [hS, e, q2]; rfl
        rw [e1, e2]; exact mk_nil
    · have e : R = [] := List.eq_nil_of_length_eq_zero (by rw [← hAl, q]; rfl)
      have e1 : B = [] := by rw [hB, q]; rfl
      have e2 : S = [] := by rw [hS, e, q]; rfl
      rw [e1, e2]; exact mk_nil
  have hmem : ∀ x, x ∈ A ↔ x ∈ B := by
    intro x
    rcases hd0 with q | q
    · rcases hdn with q2 | q2
      · rw [hB]; exact turn_mem q q2
      · rw [hB, q2]; exact Iff.rfl
    · rw [hB, q]; exact Iff.rfl
  have hd0 : 0 < A.length → 0 ≤ d := fun h => hd0.resolve_right (fun e => by rw [e] at h; exact absurd h (by decide))
  have hdn : 0 < A.length → d < A.length := fun h => hdn.resolve_right (fun e => by rw [e] at h; exact absurd h (by decide))
  have h_B := hMkB.cfA
  have h_S := hMkB.cfR
  have hBl : B.length = A.length := by rw [hB, turn_len]; omega
  have hSl : S.length = A.length := by rw [hS, turn_len]; omega
  have hBb : B.length ≤ 1000 := by omega
  obtain ⟨W, hWd⟩ : ∃ W, W = judgeW A R := ⟨_, rfl⟩
  obtain ⟨AA, hAAd⟩ : ∃ AA, AA = judgeA A R := ⟨_, rfl⟩
  obtain ⟨AB, hABd⟩ : ∃ AB, AB = judgeA B S := ⟨_, rfl⟩
  have hWB : W = judgeW B S := by rw [hWd]; exact hMk.same hMkB hmem
  have hAAW : AA.length = W.length := by rw [hAAd, hWd]; exact judge_len.symm
  have hABW : AB.length = W.length := by rw [hABd, hWB]; exact judge_len.symm
  have hE := hMk.E
  have hEB := hMkB.E
  have hW6 : W.length ≤ 6 := by rw [hWd]; exact judgeW_comb.2
  obtain ⟨F, hFd⟩ : ∃ F : Int, F = W.length + around more 2 := ⟨_, rfl⟩
  have hF0 := around_lo (n := more) (m := 2) (by decide)
  have hF1 := around_hi (n := more) (m := 2) (by decide)
  have hFW : ((judgeW A R).length : Int) ≤ F := by rw [← hWd]; omega
  have hFB : ((judgeW B S).length : Int) ≤ F := by rw [← hWB]; omega
  obtain ⟨M, hMd⟩ : ∃ M, M = leastL A := ⟨_, rfl⟩
  have hMB : M = leastL B := by rw [hMd]; exact least_same h_A h_B hmem
  have hM6 : M.length ≤ 6 := by rw [hMd]; exact least_len6
  obtain ⟨SA, hSA⟩ : ∃ x, x = agreedL A F := ⟨_, rfl⟩
  obtain ⟨SB, hSB⟩ : ∃ x, x = agreedL B F := ⟨_, rfl⟩
  have h_SA : cfs T.K43 SA := by rw [hSA]; exact agreedL_cfs h_A
  have h_SB : cfs T.K43 SB := by rw [hSB]; exact agreedL_cfs h_B
  have hlen : SA.length = SB.length := by rw [hSA, hSB]; exact agreed_len hMk hMkB hmem
  have hSl18 : SA.length ≤ 18 := by
    have q := @agO_len A F A.length
    have e : SA.length = (agO A F A.length).length := by rw [hSA]; rfl
    omega
  have hrtA : ∀ j : Int, 0 ≤ j → j < SA.length → wrongB (nth SA j) = false := fun j h0 h1 => agreed_right hMk hFW (by rw [← hSA]; exact nth_mem h0 h1)
  have hrtB : ∀ j : Int, 0 ≤ j → j < SB.length → wrongB (nth SB j) = false := fun j h0 h1 => agreed_right hMkB hFB (by rw [← hSB]; exact nth_mem h0 h1)
  have hinA : ∀ j : Int, 0 ≤ j → j < SA.length → inR (intAt (askC (nth SA j)) 20) := by
    intro j h0 h1
    rw [hSA] at h1 ⊢
    exact agreed_in h_A (fun x => by rw [hA]) h0 h1
  have hinB : ∀ j : Int, 0 ≤ j → j < SB.length → inR (intAt (askC (nth SB j)) 20) := by
    intro j h0 h1
    rw [hSB] at h1 ⊢
    exact agreed_in h_B (fun x => by rw [← hA]; exact hmem x) h0 h1
  have hB0 : 100000 ≤ BIG := by unfold BIG; omega
  have hWW : W = W := rfl
  have hMM : M = M := rfl
  refine meets_start (sz := 231) hP Try.func7 rfl rfl zo (by simp only [Tr.ofList, roRows, Nat.zero_add, Nat.reduceAdd] <;> rfl) zl ?_
  skip
  · skip
    refine k_seq ?_
    refine k_region hP hC ?_
    refine os (x_assign rfl (by rfl)) ?_
    refine o_done ?_
    refine e_seq ?_
    refine k_seq ?_
    refine k_region hP hC ?_
    refine os (x_move rfl zt) ?_
    refine os (x_move rfl zt) ?_
    refine o_call2 (fun v w => .tuple ⟨[v, w]⟩) (wA_none rfl) rfl rfl rfl zv (by decide) (tab_hit.trans (made_cE hA hR (rd_sl hs_l (by decide) (whole_row (by (repeat (first | rw [Tr.get_set, if_neg (by omega)])) <;> first | rfl | assumption | (rw [Tr.get_set, if_pos (by omega)]; done) | (rw [Tr.get_set, if_pos (by omega)]; rfl)) rfl) (by rw [ints_len, Nat.mul_one]) (ints_free0 _)) (by simp only [ok_made, Bool.and_eq_true, decide_eq_true_eq]; exact ⟨⟨⟨⟨by decide, by decide⟩, hbt⟩, hl⟩, hlb⟩))) hAl.symm (cfs_len h_A) (by rw [hAl]; exact cfs_len h_R) (fun v1 w1 t1 nx1 qa1 qb1 hx1 rA rR => ?_)
    refine os (x_move rfl zt) ?_
    refine os (x_extract rfl zt rfl) ?_
    refine os (x_extract rfl zt rfl) ?_
    refine os (x_assign rfl zt) ?_
    refine os (x_assign rfl zt) ?_
    refine o_done ?_
    refine e_seq ?_
    refine k_seq ?_
    refine k_region hP hC ?_
    refine os (x_move rfl zt) ?_
    refine os (x_move rfl zt) ?_
    refine o_call2 (fun v w => .tuple ⟨[.agg ⟨[v, w]⟩, .int .i64 0]⟩) (wA_none rfl) rfl rfl rfl zv (by decide) ((tab_miss (by decide)).trans (tab_hit.trans (judge_cE hWd hAAd (rA.at (by decide) (cfs_free0 h_A) (fun id hid => by (repeat (first | rw [Tr.get_set, if_neg (by omega)] | rw [hx1 _ (by omega)])) <;> first | rfl | assumption | (rw [Tr.get_set, if_pos (by omega)]; done) | (rw [Tr.get_set, if_pos (by omega)]; rfl))) h_A hAl (rR.at (by decide) (cfs_free0 h_R) (fun id hid => by (repeat (first | rw [Tr.get_set, if_neg (by omega)] | rw [hx1 _ (by omega)])) <;> first | rfl | assumption | (rw [Tr.get_set, if_pos (by omega)]; done) | (rw [Tr.get_set, if_pos (by omega)]; rfl))) h_R hAb hE))) hAAW intsLen (by rw [← hAAW]; exact intsLen) (fun v2 w2 t2 nx2 qa2 qb2 hx2 rW rV => ?_)
    refine os (x_move rfl zt) ?_
    refine os (x_extract rfl zt rfl) ?_
    refine os (x_extract rfl zt rfl) ?_
    refine os (y_alloc rfl T.z56 rfl rfl) ?_
    refine o_stepN (wA_none rfl) rfl (y_storeA rfl zt zt T.s56 rfl (by (repeat (first | rw [Tr.get_set, if_neg (by omega)] | rw [hx2 _ (by omega)] | rw [hx1 _ (by omega)])) <;> first | rfl | assumption | (rw [Tr.get_set, if_pos (by omega)]; done) | (rw [Tr.get_set, if_pos (by omega)]; rfl)) rfl rfl (by simp only [List.all_cons, List.all_nil, rW.one, rV.one, Bool.and_self])) ?_
    refine os (x_assign rfl zt) ?_
    refine o_done ?_
    refine e_seq ?_
    refine k_seq ?_
    have hqB : nx2 + 1 ≤ BIG := by omega
    refine k_draw hP hC zr ?_
    refine ds (x_field (off' := 0) rfl zt Try.underlying56 rfl T.s22 rfl) ?_
    refine ds (x_load1' rfl zt T.g22 (by (repeat (first | rw [Tr.get_set, if_neg (by omega)] | rw [hx2 _ (by omega)] | rw [hx1 _ (by omega)])) <;> first | rfl | assumption | (rw [Tr.get_set, if_pos (by omega)]; done) | (rw [Tr.get_set, if_pos (by omega)]; rfl)) rfl (Nat.le_of_ble_eq_true rfl) (by simp only [List.take_succ_cons, List.drop_succ_cons, List.take_zero, List.drop_zero, List.take_nil, List.drop_nil, List.cons_append, List.nil_append, List.append_nil, List.length_cons, List.length_nil, Nat.reduceAdd, Int.toNat_zero, Nat.zero_mul, Nat.add_zero, Nat.zero_add] <;> rfl)) ?_
    refine ds (x_lenD rW rfl rfl zv rfl Try.underlying22) ?_
    refine ds (x_move rfl zt) ?_
    refine d_call0 (wA_none rfl) rfl rfl rfl zv (by decide) ?_
    refine ⟨_, _, _, _, ((tab_miss (by decide)).trans ((tab_miss (by decide)).trans (tab_hit.trans (around_c (by simp only [ok_around, Bool.and_eq_true, decide_eq_true_eq]; exact ⟨hmr, by decide⟩))))), ?_⟩
    refine ds (x_bin (u := .int .i64 F) rfl zt zt (by rw [b_add, IntWalk.i64_in _ (by omega), ← hFd])) ?_
    refine ds (x_assign rfl zt) ?_
    refine d_done ⟨de_quiet (by simp only [List.all_append, List.all_cons, List.all_nil, infOf, decide_eq_true hqB, Bool.and_self]) (by show _ ≤ BIG; omega) (by show _ ≤ BIG; first | omega | (dsimp only; omega)), ?_⟩
    refine e_seq ?_
    refine k_seq ?_
    refine k_region hP hC ?_
    refine os (x_move rfl zt) ?_
    refine os (x_move rfl zt) ?_
    refine o_call1 (fun v => v) (wA_none rfl) rfl rfl rfl zv (by decide) ((tab_miss (by decide)).trans ((tab_miss (by decide)).trans ((tab_miss (by decide)).trans (tab_hit.trans (agreed_cE hSA (rA.at (by decide) (cfs_free0 h_A) (fun id hid => by (repeat (first | rw [Tr.get_set, if_neg (by omega)] | rw [hx2 _ (by omega)] | rw [hx1 _ (by omega)])) <;> first | rfl | assumption | (rw [Tr.get_set, if_pos (by omega)]; done) | (rw [Tr.get_set, if_pos (by omega)]; rfl))) h_A hAb))))) (cfs_len h_SA) (fun v3 t3 nx3 qa3 qb3 hx3 rS => ?_)
    refine os (x_assign rfl zt) ?_
    refine o_done ?_
    refine e_seq ?_
    refine k_seq ?_
    refine k_region hP hC ?_
    refine os (x_assign rfl (by rfl)) ?_
    refine o_done ?_
    refine e_seq ?_
    refine k_seq ?_
    refine k_region hP hC ?_
    refine os (x_assign rfl (by rfl)) ?_
    refine o_done ?_
    refine e_seq ?_
    refine k_seq ?_
    refine k_seq ?_
    refine k_region hP hC ?_
    refine os (x_assign rfl (by rfl)) ?_
    refine o_done ?_
    refine e_seq ?_
    refine k_block ?_
    refine k_nm (fun tS4 nS4 qS4 hxS4 => ?_)
    refine k_loopI (α := Int) (fun i s => ∃ v w e t nx wr S1 S2, s = ⟨e, 231, ⟨t, nx, wr⟩⟩ ∧ e.get 3 = some (.int .i64 turn) ∧ e.get 9 = some (v1) ∧ e.get 10 = some (w1) ∧ e.get 11 = some (.pointer (some ⟨nx2, 0, none⟩)) ∧ e.get 12 = some (.int .i64 0) ∧ e.get 13 = some (.int .i64 F) ∧ e.get 14 = some (v3) ∧ e.get 15 = some (v) ∧ e.get 16 = some (w) ∧ e.get 17 = some (.int .i64 i) ∧ 0 ≤ i ∧ i ≤ A.length ∧ nS4 ≤ nx ∧ (nx : Int) ≤ nS4 + 4 * i ∧ 1 ≤ wr ∧ wr ≤ BIG ∧ (∀ id, id < nS4 → t.get id = tS4.get id) ∧ AccP t nS4 nx S1 46 v i.toNat (turnL A A.length d i).flatten ∧ AccP t nS4 nx S2 22 w i.toNat (turnL R A.length d i).flatten ∧ (∀ x, S1 x → S2 x → False)) (fun i => (A.length - i).toNat) 0 ⟨_, _, _, _, _, _, _, _, rfl, (by (repeat (first | rw [Tr.get_set, if_neg (by omega)] | rw [hxS4 _ (by omega)] | rw [hx3 _ (by omega)] | rw [hx2 _ (by omega)] | rw [hx1 _ (by omega)])) <;> first | rfl | assumption | (rw [Tr.get_set, if_pos (by omega)]; done) | (rw [Tr.get_set, if_pos (by omega)]; rfl)), (by (repeat (first | rw [Tr.get_set, if_neg (by omega)] | rw [hxS4 _ (by omega)] | rw [hx3 _ (by omega)] | rw [hx2 _ (by omega)] | rw [hx1 _ (by omega)])) <;> first | rfl | assumption | (rw [Tr.get_set, if_pos (by omega)]; done) | (rw [Tr.get_set, if_pos (by omega)]; rfl)), (by (repeat (first | rw [Tr.get_set, if_neg (by omega)] | rw [hxS4 _ (by omega)] | rw [hx3 _ (by omega)] | rw [hx2 _ (by omega)] | rw [hx1 _ (by omega)])) <;> first | rfl | assumption | (rw [Tr.get_set, if_pos (by omega)]; done) | (rw [Tr.get_set, if_pos (by omega)]; rfl)), (by (repeat (first | rw [Tr.get_set, if_neg (by omega)] | rw [hxS4 _ (by omega)] | rw [hx3 _ (by omega)] | rw [hx2 _ (by omega)] | rw [hx1 _ (by omega)])) <;> first | rfl | assumption | (rw [Tr.get_set, if_pos (by omega)]; done) | (rw [Tr.get_set, if_pos (by omega)]; rfl)), (by (repeat (first | rw [Tr.get_set, if_neg (by omega)] | rw [hxS4 _ (by omega)] | rw [hx3 _ (by omega)] | rw [hx2 _ (by omega)] | rw [hx1 _ (by omega)])) <;> first | rfl | assumption | (rw [Tr.get_set, if_pos (by omega)]; done) | (rw [Tr.get_set, if_pos (by omega)]; rfl)), (by (repeat (first | rw [Tr.get_set, if_neg (by omega)] | rw [hxS4 _ (by omega)] | rw [hx3 _ (by omega)] | rw [hx2 _ (by omega)] | rw [hx1 _ (by omega)])) <;> first | rfl | assumption | (rw [Tr.get_set, if_pos (by omega)]; done) | (rw [Tr.get_set, if_pos (by omega)]; rfl)), (by (repeat (first | rw [Tr.get_set, if_neg (by omega)] | rw [hxS4 _ (by omega)] | rw [hx3 _ (by omega)] | rw [hx2 _ (by omega)] | rw [hx1 _ (by omega)])) <;> first | rfl | assumption | (rw [Tr.get_set, if_pos (by omega)]; done) | (rw [Tr.get_set, if_pos (by omega)]; rfl)), (by (repeat (first | rw [Tr.get_set, if_neg (by omega)] | rw [hxS4 _ (by omega)] | rw [hx3 _ (by omega)] | rw [hx2 _ (by omega)] | rw [hx1 _ (by omega)])) <;> first | rfl | assumption | (rw [Tr.get_set, if_pos (by omega)]; done) | (rw [Tr.get_set, if_pos (by omega)]; rfl)), (by (repeat (first | rw [Tr.get_set, if_neg (by omega)] | rw [hxS4 _ (by omega)] | rw [hx3 _ (by omega)] | rw [hx2 _ (by omega)] | rw [hx1 _ (by omega)])) <;> first | rfl | assumption | (rw [Tr.get_set, if_pos (by omega)]; done) | (rw [Tr.get_set, if_pos (by omega)]; rfl)), (by (repeat (first | rw [Tr.get_set, if_neg (by omega)] | rw [hxS4 _ (by omega)] | rw [hx3 _ (by omega)] | rw [hx2 _ (by omega)] | rw [hx1 _ (by omega)])) <;> first | rfl | assumption | (rw [Tr.get_set, if_pos (by omega)]; done) | (rw [Tr.get_set, if_pos (by omega)]; rfl)), by omega, by omega, by omega, by omega, by omega, by omega, fun _ _ => rfl, .start, .start, fun _ h _ => h⟩ ?_
    rintro i s ⟨v15, v16, e, t, nx, wr, S1, S2, rfl, he5_3, he5_9, he5_10, he5_11, he5_12, he5_13, he5_14, he5_15, he5_16, he5_17, h0, h1, n0, nb, w1, wb, hx5, a1, a2, hdis⟩
    refine k_seq ?_
    refine k_seq ?_
    refine k_region hP hC ?_
    refine os (x_move rfl za) ?_
    refine os (x_move rfl za) ?_
    refine os (x_lenD rA rfl rfl (by simp only [evs, ev_tmp, Tr.get_set, reduceIte, Nat.reduceEqDiff, Nat.reduceAdd, he5_3, he5_9, he5_10, he5_11, he5_12, he5_13, he5_14, he5_15, he5_16, he5_17] <;> rfl) rfl Try.underlying23) ?_
    refine os (x_bin rfl za za b_lss) ?_
    refine o_done ?_
    refine e_seq ?_
    refine k_cond (by simp only [Tr.get_set, reduceIte, Nat.reduceEqDiff, Nat.reduceAdd, ev_tmp, he5_3, he5_9, he5_10, he5_11, he5_12, he5_13, he5_14, he5_15, he5_16, he5_17] <;> rfl) (fun g2 => ?_) (fun g2 => ?_)
    · have p2 := g2; try simp only [d1, d2, d3, d4, d5, d6, d7, d8, d9] at p2
      refine k_skip ?_
      refine e_seq ?_
      refine k_seq ?_
      refine k_block ?_
      refine k_seq ?_
      obtain ⟨iA, jA, hvA, oA, bjA, biA⟩ := rA.own (show 0 < A.length by omega)
      obtain ⟨iR, jR, hvR, oR, bjR, biR⟩ := rR.own (show 0 < A.length by omega)
      subst hvA; subst hvR
      have hkr := kT_rng (n := A.length) (d := d) (i := i) (by omega) (hd0 (by omega)) h0
      have hdz := hd0 (by omega)
      have hdy := hdn (by omega)
      have hm1 := Int.tmod_lt_of_pos (i + d) (show (0 : Int) < A.length by omega)
      have hm0 := Int.tmod_nonneg (b := (A.length : Int)) (a := i + d) (by omega)
      obtain ⟨k, hkd⟩ : ∃ k, k = kT A.length d i := ⟨_, rfl⟩
      rw [← hkd] at hkr
      obtain ⟨hk0, hk1⟩ := hkr
      have hcA := cf_nth h_A hk0 hk1
      have hcR := cf_nth h_R hk0 (show k < R.length by omega)
      have no1 := a1.no
      have no2 := a2.no
      refine k_region hP hC ?_
      refine os (x_move rfl za) ?_
      refine os (x_lenD rA rfl rfl (by simp only [evs, ev_tmp, Tr.get_set, reduceIte, Nat.reduceEqDiff, Nat.reduceAdd, he5_3, he5_9, he5_10, he5_11, he5_12, he5_13, he5_14, he5_15, he5_16, he5_17, g2] <;> rfl) rfl Try.underlying23) ?_
      refine os (x_bin (u := .int .i64 (A.length - 1)) rfl za (by rfl) (by rw [b_sub]; rw [IntWalk.i64_in _ (by omega)])) ?_
      refine os (x_move rfl za) ?_
      refine os (x_move rfl za) ?_
      refine os (x_move rfl za) ?_
      refine os (x_lenD rA rfl rfl (by simp only [evs, ev_tmp, Tr.get_set, reduceIte, Nat.reduceEqDiff, Nat.reduceAdd, he5_3, he5_9, he5_10, he5_11, he5_12, he5_13, he5_14, he5_15, he5_16, he5_17, g2] <;> rfl) rfl Try.underlying23) ?_
      refine o_call0 (wA_none rfl) rfl rfl rfl (by simp only [evs, ev_tmp, Tr.get_set, reduceIte, Nat.reduceEqDiff, Nat.reduceAdd, he5_3, he5_9, he5_10, he5_11, he5_12, he5_13, he5_14, he5_15, he5_16, he5_17, g2] <;> rfl) (by decide) ?_
      refine ⟨_, _, ((tab_miss (by decide)).trans ((tab_miss (by decide)).trans (tab_hit.trans (around_c (by simp only [ok_around, Bool.and_eq_true, decide_eq_true_eq]; exact ⟨htr, by omega⟩))))).trans (by rw [← hdd]), ?_⟩
      refine os (x_bin (u := .int .i64 (i + d)) rfl za za (by rw [b_add]; rw [IntWalk.i64_in _ (by omega)])) ?_
      refine os (x_move rfl za) ?_
      refine os (x_lenD rA rfl rfl (by simp only [evs, ev_tmp, Tr.get_set, reduceIte, Nat.reduceEqDiff, Nat.reduceAdd, he5_3, he5_9, he5_10, he5_11, he5_12, he5_13, he5_14, he5_15, he5_16, he5_17, g2] <;> rfl) rfl Try.underlying23) ?_
      refine os (x_bin (u := .int .i64 ((i + d).tmod A.length)) rfl za za (by rw [(b_rem (by omega))])) ?_
      refine os (x_bin (u := .int .i64 k) rfl za za (by rw [b_sub]; rw [IntWalk.i64_in _ (by omega), hkd]; rfl)) ?_
      refine os (x_assign rfl za) ?_
      refine o_done ?_
      refine e_seq ?_
      refine k_seq ?_
      refine k_region hP hC ?_
      refine os (x_move rfl za) ?_
      refine os (x_move rfl za) ?_
      refine os (x_move rfl za) ?_
      refine os (x_index rfl za za Try.underlying23 T.s43 (by omega) (by omega)) ?_
      refine os (x_loadA rfl za T.g43 T.s43 (l_elem ((oA.keep (by (repeat (first | rw [Tr.get_set, if_neg (by omega)] | rw [hx5 _ (by omega)] | rw [hxS4 _ (by omega)] | rw [hx3 _ (by omega)] | rw [hx2 _ (by omega)] | rw [hx1 _ (by omega)])) <;> first | rfl | assumption | (rw [Tr.get_set, if_pos (by omega)]; done) | (rw [Tr.get_set, if_pos (by omega)]; rfl)) (by (repeat (first | rw [Tr.get_set, if_neg (by omega)] | rw [hx5 _ (by omega)] | rw [hxS4 _ (by omega)] | rw [hx3 _ (by omega)] | rw [hx2 _ (by omega)] | rw [hx1 _ (by omega)])) <;> first | rfl | assumption | (rw [Tr.get_set, if_pos (by omega)]; done) | (rw [Tr.get_set, if_pos (by omega)]; rfl))).whole) h_A rfl (by omega) (by omega))) ?_
      refine os (y_bsliceA rfl za Try.underlying23 T.s43 T.z43 (by decide) rfl rfl (cf_len (ks := T.K43) (by first | rfl | assumption | (apply cf_part; (first | assumption | (exact cf_nth (by assumption) (by omega) (by omega))); rfl) | (exact cf_nth (by assumption) (by omega) (by omega)))) (by decide)) ?_
      refine o_appS a1 (by omega) (fun x hs => by rw [Tr.get_set, if_neg (by have := a1.bnd x hs; omega)]) (by omega) (wA_none rfl) rfl rfl rfl (by simp only [evs, ev_tmp, Tr.get_set, reduceIte, Nat.reduceEqDiff, Nat.reduceAdd, he5_3, he5_9, he5_10, he5_11, he5_12, he5_13, he5_14, he5_15, he5_16, he5_17, g2] <;> rfl) rfl rfl zr (cells_row Try.underlying23 T.s43 (l_all (whole_row (by (repeat (first | rw [Tr.get_set, if_neg (by omega)] | rw [hx5 _ (by omega)] | rw [hxS4 _ (by omega)] | rw [hx3 _ (by omega)] | rw [hx2 _ (by omega)] | rw [hx1 _ (by omega)])) <;> first | rfl | assumption | (rw [Tr.get_set, if_pos (by omega)]; done) | (rw [Tr.get_set, if_pos (by omega)]; rfl)) rfl) (by rw [Nat.one_mul]; exact (cf_len hcA).symm))) Try.underlying23 T.i23 (by decide) (by rw [Nat.one_mul]; exact cf_len hcA) (by omega) (by omega) (cf_oneC (ks := T.K43) hcA) (by decide) (by decide) (fun vA tA wA b1A b2A aA kA => ?_)
      refine os (x_assign rfl za) ?_
      refine o_done ?_
      refine e_seq ?_
      refine k_region hP hC ?_
      refine os (x_move rfl za) ?_
      refine os (x_move rfl za) ?_
      refine os (x_move rfl za) ?_
      refine os (x_index rfl za za Try.underlying24 T.s41 (by omega) (by omega)) ?_
      refine os (x_loadA rfl za T.g41 T.s41 (l_elem ((oR.keep (by (repeat (first | rw [Tr.get_set, if_neg (by omega)] | rw [kA _ (no1 _ (by omega)) (by omega)] | rw [hx5 _ (by omega)] | rw [hxS4 _ (by omega)] | rw [hx3 _ (by omega)] | rw [hx2 _ (by omega)] | rw [hx1 _ (by omega)])) <;> first | rfl | assumption | (rw [Tr.get_set, if_pos (by omega)]; done) | (rw [Tr.get_set, if_pos (by omega)]; rfl)) (by (repeat (first | rw [Tr.get_set, if_neg (by omega)] | rw [kA _ (no1 _ (by omega)) (by omega)] | rw [hx5 _ (by omega)] | rw [hxS4 _ (by omega)] | rw [hx3 _ (by omega)] | rw [hx2 _ (by omega)] | rw [hx1 _ (by omega)])) <;> first | rfl | assumption | (rw [Tr.get_set, if_pos (by omega)]; done) | (rw [Tr.get_set, if_pos (by omega)]; rfl))).whole) h_R rfl (by omega) (by omega))) ?_
      refine os (y_bsliceA rfl za Try.underlying24 T.s41 T.z41 (by decide) rfl rfl (cf_len (ks := T.K41) (by first | rfl | assumption | (apply cf_part; (first | assumption | (exact cf_nth (by assumption) (by omega) (by omega))); rfl) | (exact cf_nth (by assumption) (by omega) (by omega)))) (by decide)) ?_
      refine o_appS a2 (by omega) (fun x hs => by rw [Tr.get_set, if_neg (by have := a2.bnd x hs; omega), kA x (fun q => hdis x q hs) (by have := a2.bnd x hs; omega), Tr.get_set, if_neg (by have := a2.bnd x hs; omega)]) (by omega) (wA_none rfl) rfl rfl rfl (by simp only [evs, ev_tmp, Tr.get_set, reduceIte, Nat.reduceEqDiff, Nat.reduceAdd, he5_3, he5_9, he5_10, he5_11, he5_12, he5_13, he5_14, he5_15, he5_16, he5_17, g2] <;> rfl) rfl rfl zr (cells_row Try.underlying24 T.s41 (l_all (whole_row (by (repeat (first | rw [Tr.get_set, if_neg (by omega)] | rw [kA _ (no1 _ (by omega)) (by omega)] | rw [hx5 _ (by omega)] | rw [hxS4 _ (by omega)] | rw [hx3 _ (by omega)] | rw [hx2 _ (by omega)] | rw [hx1 _ (by omega)])) <;> first | rfl | assumption | (rw [Tr.get_set, if_pos (by omega)]; done) | (rw [Tr.get_set, if_pos (by omega)]; rfl)) rfl) (by rw [Nat.one_mul]; exact (cf_len hcR).symm))) Try.underlying24 T.i24 (by decide) (by rw [Nat.one_mul]; exact cf_len hcR) (by omega) (by omega) (cf_oneC (ks := T.K41) hcR) (by decide) (by decide) (fun vB tB wB b1B b2B aB kB => ?_)
      refine os (x_assign rfl za) ?_
      refine o_done ?_
      refine e_block ?_
      refine e_seq ?_
      refine k_region hP hC ?_
      refine os (x_move rfl za) ?_
      refine os (x_bin rfl za (by rfl) b_add) ?_
      refine os (x_assign rfl za) ?_
      refine o_done ?_
      refine e_loop ?_
      have hw1 : IntKind.i64.wrap (i + 1) = i + 1 := wr1 (by omega) (by omega)
      have hN : (i + 1).toNat = i.toNat + 1 := by omega
      have e1 : (turnL A A.length d (i + 1)).flatten = (turnL A A.length d i).flatten ++ nth A k := by rw [turn_next h0, List.flatten_append, ← hkd]; simp only [List.flatten_cons, List.flatten_nil, List.append_nil]
      have e2 : (turnL R A.length d (i + 1)).flatten = (turnL R A.length d i).flatten ++ nth R k := by rw [turn_next h0, List.flatten_append, ← hkd]; simp only [List.flatten_cons, List.flatten_nil, List.append_nil]
      refine ⟨IntKind.i64.wrap (i + 1), ⟨vA, vB, _, _, _, _, _, _, rfl, za, za, za, za, za, za, za, za, za, za, by rw [hw1]; omega, by rw [hw1]; omega, by omega, by rw [hw1]; omega, by omega, by omega, fun id hid => by (repeat (first | rw [Tr.get_set, if_neg (by omega)] | rw [kB _ (no2 _ (by omega)) (by omega)] | rw [kA _ (no1 _ (by omega)) (by omega)] | rw [hx5 _ (by omega)] | rw [hxS4 _ (by omega)] | rw [hx3 _ (by omega)] | rw [hx2 _ (by omega)] | rw [hx1 _ (by omega)])) <;> first | rfl | assumption | (rw [Tr.get_set, if_pos (by omega)]; done) | (rw [Tr.get_set, if_pos (by omega)]; rfl), by rw [hw1, hN, e1]; exact aA.keep (by omega) (fun x hs => (kB x (fun q => by rcases hs with hs | hs; exact hdis x hs q; have := a2.bnd x q; omega) (by rcases hs with hs | hs; have := a1.bnd x hs; omega; omega)).trans (by rw [Tr.get_set, if_neg (by rcases hs with hs | hs; have := a1.bnd x hs; omega; omega)])), by rw [hw1, hN, e2]; exact aB, fun x h1 h2 => ?_⟩, ?_⟩
      · rcases h1 with h1 | h1 <;> rcases h2 with h2 | h2
        · exact hdis x h1 h2
        · have := a1.bnd x h1; omega
        · have := a2.bnd x h2; omega
        · omega
      · show (A.length - IntKind.i64.wrap (i + 1)).toNat < (A.length - i).toNat; rw [hw1]; omega
    · have p2 := g2; try simp only [d1, d2, d3, d4, d5, d6, d7, d8, d9] at p2
      refine k_exit ?_
      refine e_seq_exit ?_
      refine e_loop_exit ?_
      refine e_block_eq ?_
      refine e_seq ?_
      refine k_seq ?_
      have hi : i = A.length := by omega
      subst hi
      have rB : RdS t nx 46 v15 B.length B.flatten := by
        have q := a1.rds
        rw [← hB, Int.toNat_natCast, ← hBl] at q
        exact q
      have rT : RdS t nx 22 v16 B.length S.flatten := by
        have q := a2.rds
        rw [← hS, Int.toNat_natCast, ← hBl] at q
        exact q
      refine k_region hP hC ?_
      refine os (x_move rfl za) ?_
      refine os (x_move rfl za) ?_
      refine o_call2 (fun v w => .tuple ⟨[.agg ⟨[v, w]⟩, .int .i64 0]⟩) (wA_none rfl) rfl rfl rfl (by simp only [evs, ev_tmp, Tr.get_set, reduceIte, Nat.reduceEqDiff, Nat.reduceAdd, he5_3, he5_9, he5_10, he5_11, he5_12, he5_13, he5_14, he5_15, he5_16, he5_17, g2] <;> rfl) (by decide) ((tab_miss (by decide)).trans (tab_hit.trans (judge_cE hWB hABd (rB.at (by decide) (cfs_free0 h_B) (fun id hid => by (repeat (first | rw [Tr.get_set, if_neg (by omega)] | rw [hx5 _ (by omega)] | rw [hxS4 _ (by omega)] | rw [hx3 _ (by omega)] | rw [hx2 _ (by omega)] | rw [hx1 _ (by omega)])) <;> first | rfl | assumption | (rw [Tr.get_set, if_pos (by omega)]; done) | (rw [Tr.get_set, if_pos (by omega)]; rfl))) h_B (hBl.trans hSl.symm) (rT.at (by decide) (cfs_free0 h_S) (fun id hid => by (repeat (first | rw [Tr.get_set, if_neg (by omega)] | rw [hx5 _ (by omega)] | rw [hxS4 _ (by omega)] | rw [hx3 _ (by omega)] | rw [hx2 _ (by omega)] | rw [hx1 _ (by omega)])) <;> first | rfl | assumption | (rw [Tr.get_set, if_pos (by omega)]; done) | (rw [Tr.get_set, if_pos (by omega)]; rfl))) h_S hBb hEB))) hABW intsLen (by rw [← hABW]; exact intsLen) (fun v6 w6 t6 nx6 qa6 qb6 hx6 rW2 rV2 => ?_)
      refine os (x_move rfl za) ?_
      refine os (x_extract rfl za rfl) ?_
      refine os (x_extract rfl za rfl) ?_
      refine os (y_alloc rfl T.z56 rfl rfl) ?_
      refine o_stepN (wA_none rfl) rfl (y_storeA rfl za za T.s56 rfl (by (repeat (first | rw [Tr.get_set, if_neg (by omega)] | rw [hx6 _ (by omega)] | rw [hx5 _ (by omega)] | rw [hxS4 _ (by omega)] | rw [hx3 _ (by omega)] | rw [hx2 _ (by omega)] | rw [hx1 _ (by omega)])) <;> first | rfl | assumption | (rw [Tr.get_set, if_pos (by omega)]; done) | (rw [Tr.get_set, if_pos (by omega)]; rfl)) rfl rfl (by simp only [List.all_cons, List.all_nil, rW2.one, rV2.one, Bool.and_self])) ?_
      refine os (x_assign rfl za) ?_
      refine o_done ?_
      refine e_seq ?_
      refine k_seq ?_
      refine k_region hP hC ?_
      refine os (x_move rfl za) ?_
      refine o_call1 (fun v => .tuple ⟨[v, .int .i64 0]⟩) (wA_none rfl) rfl rfl rfl (by simp only [evs, ev_tmp, Tr.get_set, reduceIte, Nat.reduceEqDiff, Nat.reduceAdd, he5_3, he5_9, he5_10, he5_11, he5_12, he5_13, he5_14, he5_15, he5_16, he5_17, g2] <;> rfl) (by decide) ((tab_miss (by decide)).trans ((tab_miss (by decide)).trans ((tab_miss (by decide)).trans ((tab_miss (by decide)).trans (tab_hit.trans (least_cE hMd (rA.at (by decide) (cfs_free0 h_A) (fun id hid => by (repeat (first | rw [Tr.get_set, if_neg (by omega)] | rw [hx6 _ (by omega)] | rw [hx5 _ (by omega)] | rw [hxS4 _ (by omega)] | rw [hx3 _ (by omega)] | rw [hx2 _ (by omega)] | rw [hx1 _ (by omega)])) <;> first | rfl | assumption | (rw [Tr.get_set, if_pos (by omega)]; done) | (rw [Tr.get_set, if_pos (by omega)]; rfl))) h_A hAb hMk.odd)))))) intsLen (fun v7 t7 nx7 qa7 qb7 hx7 rM => ?_)
      refine os (x_move rfl za) ?_
      refine os (x_extract rfl za rfl) ?_
      refine os (x_extract rfl za rfl) ?_
      refine os (x_assign rfl za) ?_
      refine os (x_assign rfl za) ?_
      refine o_done ?_
      refine e_seq ?_
      refine k_seq ?_
      refine k_region hP hC ?_
      refine os (x_move rfl za) ?_
      refine o_call1 (fun v => .tuple ⟨[v, .int .i64 0]⟩) (wA_none rfl) rfl rfl rfl (by simp only [evs, ev_tmp, Tr.get_set, reduceIte, Nat.reduceEqDiff, Nat.reduceAdd, he5_3, he5_9, he5_10, he5_11, he5_12, he5_13, he5_14, he5_15, he5_16, he5_17, g2] <;> rfl) (by decide) ((tab_miss (by decide)).trans ((tab_miss (by decide)).trans ((tab_miss (by decide)).trans ((tab_miss (by decide)).trans (tab_hit.trans (least_cE hMB (rB.at (by decide) (cfs_free0 h_B) (fun id hid => by (repeat (first | rw [Tr.get_set, if_neg (by omega)] | rw [hx7 _ (by omega)] | rw [hx6 _ (by omega)] | rw [hx5 _ (by omega)] | rw [hxS4 _ (by omega)] | rw [hx3 _ (by omega)] | rw [hx2 _ (by omega)] | rw [hx1 _ (by omega)])) <;> first | rfl | assumption | (rw [Tr.get_set, if_pos (by omega)]; done) | (rw [Tr.get_set, if_pos (by omega)]; rfl))) h_B hBb hMkB.odd)))))) intsLen (fun v8 t8 nx8 qa8 qb8 hx8 rN => ?_)
      refine os (x_move rfl za) ?_
      refine os (x_extract rfl za rfl) ?_
      refine os (x_extract rfl za rfl) ?_
      refine os (x_assign rfl za) ?_
      refine os (x_assign rfl za) ?_
      refine o_done ?_
      refine e_seq ?_
      refine k_seq ?_
      refine k_region hP hC ?_
      refine os (x_move rfl za) ?_
      refine os (x_move rfl za) ?_
      refine o_call1 (fun v => v) (wA_none rfl) rfl rfl rfl (by simp only [evs, ev_tmp, Tr.get_set, reduceIte, Nat.reduceEqDiff, Nat.reduceAdd, he5_3, he5_9, he5_10, he5_11, he5_12, he5_13, he5_14, he5_15, he5_16, he5_17, g2] <;> rfl) (by decide) ((tab_miss (by decide)).trans ((tab_miss (by decide)).trans ((tab_miss (by decide)).trans (tab_hit.trans (agreed_cE hSB (rB.at (by decide) (cfs_free0 h_B) (fun id hid => by (repeat (first | rw [Tr.get_set, if_neg (by omega)] | rw [hx8 _ (by omega)] | rw [hx7 _ (by omega)] | rw [hx6 _ (by omega)] | rw [hx5 _ (by omega)] | rw [hxS4 _ (by omega)] | rw [hx3 _ (by omega)] | rw [hx2 _ (by omega)] | rw [hx1 _ (by omega)])) <;> first | rfl | assumption | (rw [Tr.get_set, if_pos (by omega)]; done) | (rw [Tr.get_set, if_pos (by omega)]; rfl))) h_B hBb))))) (cfs_len h_SB) (fun v9 t9 nx9 qa9 qb9 hx9 rO => ?_)
      refine os (x_assign rfl za) ?_
      refine o_done ?_
      refine e_seq ?_
      refine k_seq ?_
      refine k_seq ?_
      refine k_nmE (fun e hee => ?_)
      have heE_9 := (hee 9).trans (show _ = some _ from za)
      have heE_11 := (hee 11).trans (show _ = some _ from za)
      have heE_12 := (hee 12).trans (show _ = some _ from za)
      have heE_13 := (hee 13).trans (show _ = some _ from za)
      have heE_14 := (hee 14).trans (show _ = some _ from za)
      have heE_19 := (hee 19).trans (show _ = some _ from za)
      have heE_20 := (hee 20).trans (show _ = some _ from za)
      have heE_21 := (hee 21).trans (show _ = some _ from za)
      have heE_22 := (hee 22).trans (show _ = some _ from za)
      have heE_23 := (hee 23).trans (show _ = some _ from za)
      have heE_24 := (hee 24).trans (show _ = some _ from za)
      have heE_25 := (hee 25).trans (show _ = some _ from za)
      refine k_region hP hC ?_
      refine os (x_move rfl za) ?_
      refine os (x_bin (u := .bool false) rfl za (by rfl) (by rw [b_neq]; rfl)) ?_
      refine os (x_move rfl za) ?_
      refine o_step (wA_on rfl rfl (by simp only [Tr.get_set, reduceIte, Nat.reduceEqDiff, Nat.reduceAdd, heE_9, heE_11, heE_12, heE_13, heE_14, heE_19, heE_20, heE_21, heE_22, heE_23, heE_24, heE_25] <;> rfl)) rfl (x_move rfl za) (by decide) ?_
      refine o_step (wA_on rfl rfl (by simp only [Tr.get_set, reduceIte, Nat.reduceEqDiff, Nat.reduceAdd, heE_9, heE_11, heE_12, heE_13, heE_14, heE_19, heE_20, heE_21, heE_22, heE_23, heE_24, heE_25] <;> rfl)) rfl (x_bin (u := .bool false) rfl za (by rfl) (by rw [b_neq]; rfl)) (by decide) ?_
      refine os (x_pick rfl (by simp only [Tr.get_set, reduceIte, Nat.reduceEqDiff, Nat.reduceAdd, ev_tmp, heE_9, heE_11, heE_12, heE_13, heE_14, heE_19, heE_20, heE_21, heE_22, heE_23, heE_24, heE_25] <;> rfl) (by simp only [if_true, if_false, Bool.false_eq_true, ev_tmp, Tr.get_set, reduceIte, Nat.reduceEqDiff, Nat.reduceAdd, heE_9, heE_11, heE_12, heE_13, heE_14, heE_19, heE_20, heE_21, heE_22, heE_23, heE_24, heE_25]; rfl)) ?_
      refine os (x_move rfl za) ?_
      refine o_step (wA_on rfl rfl (by simp only [Tr.get_set, reduceIte, Nat.reduceEqDiff, Nat.reduceAdd, heE_9, heE_11, heE_12, heE_13, heE_14, heE_19, heE_20, heE_21, heE_22, heE_23, heE_24, heE_25] <;> rfl)) rfl (x_move rfl za) (by decide) ?_
      refine o_step (wA_on rfl rfl (by simp only [Tr.get_set, reduceIte, Nat.reduceEqDiff, Nat.reduceAdd, heE_9, heE_11, heE_12, heE_13, heE_14, heE_19, heE_20, heE_21, heE_22, heE_23, heE_24, heE_25] <;> rfl)) rfl (x_bin (u := .bool false) rfl za (by rfl) (by rw [b_neq]; rfl)) (by decide) ?_
      refine os (x_pick rfl (by simp only [Tr.get_set, reduceIte, Nat.reduceEqDiff, Nat.reduceAdd, ev_tmp, heE_9, heE_11, heE_12, heE_13, heE_14, heE_19, heE_20, heE_21, heE_22, heE_23, heE_24, heE_25] <;> rfl) (by simp only [if_true, if_false, Bool.false_eq_true, ev_tmp, Tr.get_set, reduceIte, Nat.reduceEqDiff, Nat.reduceAdd, heE_9, heE_11, heE_12, heE_13, heE_14, heE_19, heE_20, heE_21, heE_22, heE_23, heE_24, heE_25]; rfl)) ?_
      refine os (x_move rfl za) ?_
      refine o_step (wA_on rfl rfl (by simp only [Tr.get_set, reduceIte, Nat.reduceEqDiff, Nat.reduceAdd, heE_9, heE_11, heE_12, heE_13, heE_14, heE_19, heE_20, heE_21, heE_22, heE_23, heE_24, heE_25] <;> rfl)) rfl (x_move rfl za) (by decide) ?_
      refine o_step (wA_on rfl rfl (by simp only [Tr.get_set, reduceIte, Nat.reduceEqDiff, Nat.reduceAdd, heE_9, heE_11, heE_12, heE_13, heE_14, heE_19, heE_20, heE_21, heE_22, heE_23, heE_24, heE_25] <;> rfl)) rfl (x_bin (u := .bool false) rfl za (by rfl) (by rw [b_neq]; rfl)) (by decide) ?_
      refine os (x_pick rfl (by simp only [Tr.get_set, reduceIte, Nat.reduceEqDiff, Nat.reduceAdd, ev_tmp, heE_9, heE_11, heE_12, heE_13, heE_14, heE_19, heE_20, heE_21, heE_22, heE_23, heE_24, heE_25] <;> rfl) (by simp only [if_true, if_false, Bool.false_eq_true, ev_tmp, Tr.get_set, reduceIte, Nat.reduceEqDiff, Nat.reduceAdd, heE_9, heE_11, heE_12, heE_13, heE_14, heE_19, heE_20, heE_21, heE_22, heE_23, heE_24, heE_25]; rfl)) ?_
      refine os (x_move rfl za) ?_
      refine o_step (wA_on rfl rfl (by simp only [Tr.get_set, reduceIte, Nat.reduceEqDiff, Nat.reduceAdd, heE_9, heE_11, heE_12, heE_13, heE_14, heE_19, heE_20, heE_21, heE_22, heE_23, heE_24, heE_25] <;> rfl)) rfl (x_field (off' := 0) rfl za Try.underlying56 rfl T.s22 rfl) (by decide) ?_
      refine o_step (wA_on rfl rfl (by simp only [Tr.get_set, reduceIte, Nat.reduceEqDiff, Nat.reduceAdd, heE_9, heE_11, heE_12, heE_13, heE_14, heE_19, heE_20, heE_21, heE_22, heE_23, heE_24, heE_25] <;> rfl)) rfl (x_load1' rfl za T.g22 (by (repeat (first | rw [Tr.get_set, if_neg (by omega)] | rw [hx9 _ (by omega)] | rw [hx8 _ (by omega)] | rw [hx7 _ (by omega)] | rw [hx6 _ (by omega)] | rw [hx5 _ (by omega)] | rw [hxS4 _ (by omega)] | rw [hx3 _ (by omega)] | rw [hx2 _ (by omega)] | rw [hx1 _ (by omega)])) <;> first | rfl | assumption | (rw [Tr.get_set, if_pos (by omega)]; done) | (rw [Tr.get_set, if_pos (by omega)]; rfl)) rfl (Nat.le_of_ble_eq_true rfl) (by simp only [List.take_succ_cons, List.drop_succ_cons, List.take_zero, List.drop_zero, List.take_nil, List.drop_nil, List.cons_append, List.nil_append, List.append_nil, List.length_cons, List.length_nil, Nat.reduceAdd, Int.toNat_zero, Nat.zero_mul, Nat.add_zero, Nat.zero_add] <;> rfl)) (by decide) ?_
      refine o_step (wA_on rfl rfl (by simp only [Tr.get_set, reduceIte, Nat.reduceEqDiff, Nat.reduceAdd, heE_9, heE_11, heE_12, heE_13, heE_14, heE_19, heE_20, heE_21, heE_22, heE_23, heE_24, heE_25] <;> rfl)) rfl (x_field (off' := 0) rfl za Try.underlying56 rfl T.s22 rfl) (by decide) ?_
      refine o_step (wA_on rfl rfl (by simp only [Tr.get_set, reduceIte, Nat.reduceEqDiff, Nat.reduceAdd, heE_9, heE_11, heE_12, heE_13, heE_14, heE_19, heE_20, heE_21, heE_22, heE_23, heE_24, heE_25] <;> rfl)) rfl (x_load1' rfl za T.g22 (by (repeat (first | rw [Tr.get_set, if_neg (by omega)] | rw [hx9 _ (by omega)] | rw [hx8 _ (by omega)] | rw [hx7 _ (by omega)] | rw [hx6 _ (by omega)] | rw [hx5 _ (by omega)] | rw [hxS4 _ (by omega)] | rw [hx3 _ (by omega)] | rw [hx2 _ (by omega)] | rw [hx1 _ (by omega)])) <;> first | rfl | assumption | (rw [Tr.get_set, if_pos (by omega)]; done) | (rw [Tr.get_set, if_pos (by omega)]; rfl)) rfl (Nat.le_of_ble_eq_true rfl) (by simp only [List.take_succ_cons, List.drop_succ_cons, List.take_zero, List.drop_zero, List.take_nil, List.drop_nil, List.cons_append, List.nil_append, List.append_nil, List.length_cons, List.length_nil, Nat.reduceAdd, Int.toNat_zero, Nat.zero_mul, Nat.add_zero, Nat.zero_add] <;> rfl)) (by decide) ?_
      refine o_call0 (wA_on rfl rfl (by simp only [Tr.get_set, reduceIte, Nat.reduceEqDiff, Nat.reduceAdd, heE_9, heE_11, heE_12, heE_13, heE_14, heE_19, heE_20, heE_21, heE_22, heE_23, heE_24, heE_25] <;> rfl)) rfl rfl rfl (by simp only [evs, ev_tmp, Tr.get_set, reduceIte, Nat.reduceEqDiff, Nat.reduceAdd, heE_9, heE_11, heE_12, heE_13, heE_14, heE_19, heE_20, heE_21, heE_22, heE_23, heE_24, heE_25] <;> rfl) (by decide) ?_
      refine ⟨_, _, ((tab_miss (by decide)).trans ((tab_miss (by decide)).trans ((tab_miss (by decide)).trans ((tab_miss (by decide)).trans ((tab_miss (by decide)).trans (tab_hit.trans (same01_cT (rW.at (by decide) (ints_free0 _) (fun id hid => by (repeat (first | rw [Tr.get_set, if_neg (by omega)] | rw [hx9 _ (by omega)] | rw [hx8 _ (by omega)] | rw [hx7 _ (by omega)] | rw [hx6 _ (by omega)] | rw [hx5 _ (by omega)] | rw [hxS4 _ (by omega)] | rw [hx3 _ (by omega)] | rw [hx2 _ (by omega)] | rw [hx1 _ (by omega)])) <;> first | rfl | assumption | (rw [Tr.get_set, if_pos (by omega)]; done) | (rw [Tr.get_set, if_pos (by omega)]; rfl))) (rW2.at (by decide) (ints_free0 _) (fun id hid => by (repeat (first | rw [Tr.get_set, if_neg (by omega)] | rw [hx9 _ (by omega)] | rw [hx8 _ (by omega)] | rw [hx7 _ (by omega)] | rw [hx6 _ (by omega)] | rw [hx5 _ (by omega)] | rw [hxS4 _ (by omega)] | rw [hx3 _ (by omega)] | rw [hx2 _ (by omega)] | rw [hx1 _ (by omega)])) <;> first | rfl | assumption | (rw [Tr.get_set, if_pos (by omega)]; done) | (rw [Tr.get_set, if_pos (by omega)]; rfl))) (by omega) hWW))))))), ?_⟩
      refine o_step (wA_on rfl rfl (by simp only [Tr.get_set, reduceIte, Nat.reduceEqDiff, Nat.reduceAdd, heE_9, heE_11, heE_12, heE_13, heE_14, heE_19, heE_20, heE_21, heE_22, heE_23, heE_24, heE_25] <;> rfl)) rfl (x_notT rfl (by simp only [Tr.get_set, reduceIte, Nat.reduceEqDiff, Nat.reduceAdd, ev_tmp, heE_9, heE_11, heE_12, heE_13, heE_14, heE_19, heE_20, heE_21, heE_22, heE_23, heE_24, heE_25] <;> rfl)) (by decide) ?_
      refine os (x_pick rfl (by simp only [Tr.get_set, reduceIte, Nat.reduceEqDiff, Nat.reduceAdd, ev_tmp, heE_9, heE_11, heE_12, heE_13, heE_14, heE_19, heE_20, heE_21, heE_22, heE_23, heE_24, heE_25] <;> rfl) (by simp only [if_true, if_false, Bool.false_eq_true, ev_tmp, Tr.get_set, reduceIte, Nat.reduceEqDiff, Nat.reduceAdd, heE_9, heE_11, heE_12, heE_13, heE_14, heE_19, heE_20, heE_21, heE_22, heE_23, heE_24, heE_25]; rfl)) ?_
      refine os (x_move rfl za) ?_
      refine o_step (wA_on rfl rfl (by simp only [Tr.get_set, reduceIte, Nat.reduceEqDiff, Nat.reduceAdd, heE_9, heE_11, heE_12, heE_13, heE_14, heE_19, heE_20, heE_21, heE_22, heE_23, heE_24, heE_25] <;> rfl)) rfl (x_move rfl za) (by decide) ?_
      refine o_step (wA_on rfl rfl (by simp only [Tr.get_set, reduceIte, Nat.reduceEqDiff, Nat.reduceAdd, heE_9, heE_11, heE_12, heE_13, heE_14, heE_19, heE_20, heE_21, heE_22, heE_23, heE_24, heE_25] <;> rfl)) rfl (x_move rfl za) (by decide) ?_
      refine o_call0 (wA_on rfl rfl (by simp only [Tr.get_set, reduceIte, Nat.reduceEqDiff, Nat.reduceAdd, heE_9, heE_11, heE_12, heE_13, heE_14, heE_19, heE_20, heE_21, heE_22, heE_23, heE_24, heE_25] <;> rfl)) rfl rfl rfl (by simp only [evs, ev_tmp, Tr.get_set, reduceIte, Nat.reduceEqDiff, Nat.reduceAdd, heE_9, heE_11, heE_12, heE_13, heE_14, heE_19, heE_20, heE_21, heE_22, heE_23, heE_24, heE_25] <;> rfl) (by decide) ?_
      refine ⟨_, _, ((tab_miss (by decide)).trans ((tab_miss (by decide)).trans ((tab_miss (by decide)).trans ((tab_miss (by decide)).trans ((tab_miss (by decide)).trans (tab_hit.trans (same01_cT (rM.at (by decide) (ints_free0 _) (fun id hid => by (repeat (first | rw [Tr.get_set, if_neg (by omega)] | rw [hx9 _ (by omega)] | rw [hx8 _ (by omega)] | rw [hx7 _ (by omega)] | rw [hx6 _ (by omega)] | rw [hx5 _ (by omega)] | rw [hxS4 _ (by omega)] | rw [hx3 _ (by omega)] | rw [hx2 _ (by omega)] | rw [hx1 _ (by omega)])) <;> first | rfl | assumption | (rw [Tr.get_set, if_pos (by omega)]; done) | (rw [Tr.get_set, if_pos (by omega)]; rfl))) (rN.at (by decide) (ints_free0 _) (fun id hid => by (repeat (first | rw [Tr.get_set, if_neg (by omega)] | rw [hx9 _ (by omega)] | rw [hx8 _ (by omega)] | rw [hx7 _ (by omega)] | rw [hx6 _ (by omega)] | rw [hx5 _ (by omega)] | rw [hxS4 _ (by omega)] | rw [hx3 _ (by omega)] | rw [hx2 _ (by omega)] | rw [hx1 _ (by omega)])) <;> first | rfl | assumption | (rw [Tr.get_set, if_pos (by omega)]; done) | (rw [Tr.get_set, if_pos (by omega)]; rfl))) (by omega) hMM))))))), ?_⟩
      refine o_step (wA_on rfl rfl (by simp only [Tr.get_set, reduceIte, Nat.reduceEqDiff, Nat.reduceAdd, heE_9, heE_11, heE_12, heE_13, heE_14, heE_19, heE_20, heE_21, heE_22, heE_23, heE_24, heE_25] <;> rfl)) rfl (x_notT rfl (by simp only [Tr.get_set, reduceIte, Nat.reduceEqDiff, Nat.reduceAdd, ev_tmp, heE_9, heE_11, heE_12, heE_13, heE_14, heE_19, heE_20, heE_21, heE_22, heE_23, heE_24, heE_25] <;> rfl)) (by decide) ?_
      refine os (x_pick rfl (by simp only [Tr.get_set, reduceIte, Nat.reduceEqDiff, Nat.reduceAdd, ev_tmp, heE_9, heE_11, heE_12, heE_13, heE_14, heE_19, heE_20, heE_21, heE_22, heE_23, heE_24, heE_25] <;> rfl) (by simp only [if_true, if_false, Bool.false_eq_true, ev_tmp, Tr.get_set, reduceIte, Nat.reduceEqDiff, Nat.reduceAdd, heE_9, heE_11, heE_12, heE_13, heE_14, heE_19, heE_20, heE_21, heE_22, heE_23, heE_24, heE_25]; rfl)) ?_
      refine os (x_move rfl za) ?_
      refine o_step (wA_on rfl rfl (by simp only [Tr.get_set, reduceIte, Nat.reduceEqDiff, Nat.reduceAdd, heE_9, heE_11, heE_12, heE_13, heE_14, heE_19, heE_20, heE_21, heE_22, heE_23, heE_24, heE_25] <;> rfl)) rfl (x_move rfl za) (by decide) ?_
      refine o_step (wA_on rfl rfl (by simp only [Tr.get_set, reduceIte, Nat.reduceEqDiff, Nat.reduceAdd, heE_9, heE_11, heE_12, heE_13, heE_14, heE_19, heE_20, heE_21, heE_22, heE_23, heE_24, heE_25] <;> rfl)) rfl (x_lenD rS rfl rfl (by simp only [evs, ev_tmp, Tr.get_set, reduceIte, Nat.reduceEqDiff, Nat.reduceAdd, heE_9, heE_11, heE_12, heE_13, heE_14, heE_19, heE_20, heE_21, heE_22, heE_23, heE_24, heE_25] <;> rfl) rfl Try.underlying23) (by decide) ?_
      refine o_step (wA_on rfl rfl (by simp only [Tr.get_set, reduceIte, Nat.reduceEqDiff, Nat.reduceAdd, heE_9, heE_11, heE_12, heE_13, heE_14, heE_19, heE_20, heE_21, heE_22, heE_23, heE_24, heE_25] <;> rfl)) rfl (x_move rfl za) (by decide) ?_
      refine o_step (wA_on rfl rfl (by simp only [Tr.get_set, reduceIte, Nat.reduceEqDiff, Nat.reduceAdd, heE_9, heE_11, heE_12, heE_13, heE_14, heE_19, heE_20, heE_21, heE_22, heE_23, heE_24, heE_25] <;> rfl)) rfl (x_lenD rO rfl rfl (by simp only [evs, ev_tmp, Tr.get_set, reduceIte, Nat.reduceEqDiff, Nat.reduceAdd, heE_9, heE_11, heE_12, heE_13, heE_14, heE_19, heE_20, heE_21, heE_22, heE_23, heE_24, heE_25] <;> rfl) rfl Try.underlying23) (by decide) ?_
      refine o_step (wA_on rfl rfl (by simp only [Tr.get_set, reduceIte, Nat.reduceEqDiff, Nat.reduceAdd, heE_9, heE_11, heE_12, heE_13, heE_14, heE_19, heE_20, heE_21, heE_22, heE_23, heE_24, heE_25] <;> rfl)) rfl (x_bin (u := .bool false) rfl za za (by rw [b_neq]; rw [hlen]; simp)) (by decide) ?_
      refine os (x_pick rfl (by simp only [Tr.get_set, reduceIte, Nat.reduceEqDiff, Nat.reduceAdd, ev_tmp, heE_9, heE_11, heE_12, heE_13, heE_14, heE_19, heE_20, heE_21, heE_22, heE_23, heE_24, heE_25] <;> rfl) (by simp only [if_true, if_false, Bool.false_eq_true, ev_tmp, Tr.get_set, reduceIte, Nat.reduceEqDiff, Nat.reduceAdd, heE_9, heE_11, heE_12, heE_13, heE_14, heE_19, heE_20, heE_21, heE_22, heE_23, heE_24, heE_25]; rfl)) ?_
      refine o_done ?_
      refine e_seq ?_
      refine k_condF (by simp only [Tr.get_set, reduceIte, Nat.reduceEqDiff, Nat.reduceAdd, ev_tmp, heE_9, heE_11, heE_12, heE_13, heE_14, heE_19, heE_20, heE_21, heE_22, heE_23, heE_24, heE_25] <;> rfl) ?_
      refine k_skip ?_
      refine e_seq ?_
      refine k_seq ?_
      refine k_seq ?_
      refine k_region hP hC ?_
      refine os (x_assign rfl (by rfl)) ?_
      refine o_done ?_
      refine e_seq ?_
      refine k_block ?_
      refine k_nm (fun tS10 nS10 qS10 hxS10 => ?_)
      refine k_loopI (α := Int) (fun s z => ∃ e t nx wr, z = ⟨e, 231, ⟨t, nx, wr⟩⟩ ∧ e.get 9 = some (v1) ∧ e.get 13 = some (.int .i64 F) ∧ e.get 14 = some (v3) ∧ e.get 25 = some (v9) ∧ e.get 26 = some (.int .i64 s) ∧ 0 ≤ s ∧ s ≤ 4 ∧ nS10 ≤ nx ∧ (nx : Int) ≤ nS10 + 100 * s ∧ 1 ≤ wr ∧ wr ≤ BIG ∧ (∀ id, id < nS10 → t.get id = tS10.get id)) (fun s => (4 - s).toNat) 0 ⟨_, _, _, _, rfl, za, za, za, za, za, by omega, by omega, by omega, by omega, by omega, by omega, fun _ _ => rfl⟩ ?_
      rintro s z ⟨e, t, nx, wr, rfl, he11_9, he11_13, he11_14, he11_25, he11_26, s0, s1, n0, nb, w1, wb, hx11⟩
      refine k_seq ?_
      refine k_seq ?_
      refine k_region hP hC ?_
      refine os (x_move rfl za) ?_
      refine os (x_bin rfl za (by rfl) b_lss) ?_
      refine o_done ?_
      refine e_seq ?_
      refine k_cond (by simp only [Tr.get_set, reduceIte, Nat.reduceEqDiff, Nat.reduceAdd, ev_tmp, he11_9, he11_13, he11_14, he11_25, he11_26] <;> rfl) (fun g4 => ?_) (fun g4 => ?_)
      · have p4 := g4; try simp only [d1, d2, d3, d4, d5, d6, d7, d8, d9] at p4
        refine k_skip ?_
        refine e_seq ?_
        refine k_seq ?_
        refine k_block ?_
        refine k_seq ?_
        refine k_region hP hC ?_
        refine os (x_assign rfl (by rfl)) ?_
        refine o_done ?_
        refine e_seq ?_
        refine k_seq ?_
        refine k_seq ?_
        refine k_region hP hC ?_
        refine os (x_assign rfl (by rfl)) ?_
        refine o_done ?_
        refine e_seq ?_
        refine k_block ?_
        refine k_nm (fun tS12 nS12 qS12 hxS12 => ?_)
        refine k_loopI (α := Int) (fun i z => ∃ v e t nx wr S, z = ⟨e, 231, ⟨t, nx, wr⟩⟩ ∧ e.get 9 = some (v1) ∧ e.get 13 = some (.int .i64 F) ∧ e.get 14 = some (v3) ∧ e.get 25 = some (v9) ∧ e.get 26 = some (.int .i64 s) ∧ e.get 27 = some (v) ∧ e.get 28 = some (.int .i64 i) ∧ 0 ≤ i ∧ i ≤ A.length ∧ nS12 ≤ nx ∧ (nx : Int) ≤ nS12 + 2 * i ∧ 1 ≤ wr ∧ wr ≤ BIG ∧ (∀ id, id < nS12 → t.get id = tS12.get id) ∧ AccP t nS12 nx S 1 v (whoF s (A.take i.toNat)).length (ints (whoF s (A.take i.toNat)))) (fun i => (A.length - i).toNat) 0 ⟨_, _, _, _, _, _, rfl, za, za, za, za, za, za, za, by omega, by omega, by omega, by omega, by omega, by omega, fun _ _ => rfl, .start⟩ ?_
        rintro i z ⟨v27, e, t, nx, wr, S, rfl, he13_9, he13_13, he13_14, he13_25, he13_26, he13_27, he13_28, h0, h1, n0, nb, w1, wb, hx13, a3⟩
        refine k_seq ?_
        refine k_seq ?_
        refine k_region hP hC ?_
        refine os (x_move rfl za) ?_
        refine os (x_move rfl za) ?_
        refine os (x_lenD rA rfl rfl (by simp only [evs, ev_tmp, Tr.get_set, reduceIte, Nat.reduceEqDiff, Nat.reduceAdd, he13_9, he13_13, he13_14, he13_25, he13_26, he13_27, he13_28] <;> rfl) rfl Try.underlying23) ?_
        refine os (x_bin rfl za za b_lss) ?_
        refine o_done ?_
        refine e_seq ?_
        refine k_cond (by simp only [Tr.get_set, reduceIte, Nat.reduceEqDiff, Nat.reduceAdd, ev_tmp, he13_9, he13_13, he13_14, he13_25, he13_26, he13_27, he13_28] <;> rfl) (fun g6 => ?_) (fun g6 => ?_)
        · have p6 := g6; try simp only [d1, d2, d3, d4, d5, d6, d7, d8, d9] at p6
          refine k_skip ?_
          refine e_seq ?_
          refine k_seq ?_
          refine k_block ?_
          refine k_seq ?_
          obtain ⟨iA, jA, hvA, oA, bjA, biA⟩ := rA.own (show 0 < A.length by omega)
          subst hvA
          have no3 := a3.no
          have hwl := @who_len s (A.take i.toNat)
          rw [List.length_take] at hwl
          refine k_region hP hC ?_
          refine os (x_move rfl za) ?_
          refine os (x_move rfl za) ?_
          refine os (x_index rfl za za Try.underlying23 T.s43 (by omega) (by omega)) ?_
          refine os (x_fieldK (a := 2) rfl za Try.underlying43 rfl T.s37 rfl) ?_
          refine os (x_field (off' := 0 + _ * _ + 22) rfl za Try.underlying37 rfl T.s3 rfl) ?_
          refine os (x_load1 rfl za T.g3 (l_partI (a := 22) (K := 46) ((oA.keep (by (repeat (first | rw [Tr.get_set, if_neg (by omega)] | rw [hx13 _ (by omega)] | rw [hxS12 _ (by omega)] | rw [hx11 _ (by omega)] | rw [hxS10 _ (by omega)] | rw [hx9 _ (by omega)] | rw [hx8 _ (by omega)] | rw [hx7 _ (by omega)] | rw [hx6 _ (by omega)] | rw [hx5 _ (by omega)] | rw [hxS4 _ (by omega)] | rw [hx3 _ (by omega)] | rw [hx2 _ (by omega)] | rw [hx1 _ (by omega)])) <;> first | rfl | assumption | (rw [Tr.get_set, if_pos (by omega)]; done) | (rw [Tr.get_set, if_pos (by omega)]; rfl)) (by (repeat (first | rw [Tr.get_set, if_neg (by omega)] | rw [hx13 _ (by omega)] | rw [hxS12 _ (by omega)] | rw [hx11 _ (by omega)] | rw [hxS10 _ (by omega)] | rw [hx9 _ (by omega)] | rw [hx8 _ (by omega)] | rw [hx7 _ (by omega)] | rw [hx6 _ (by omega)] | rw [hx5 _ (by omega)] | rw [hxS4 _ (by omega)] | rw [hx3 _ (by omega)] | rw [hx2 _ (by omega)] | rw [hx1 _ (by omega)])) <;> first | rfl | assumption | (rw [Tr.get_set, if_pos (by omega)]; done) | (rw [Tr.get_set, if_pos (by omega)]; rfl))).whole) h_A rfl (by omega) (by omega) rfl)) ?_
          refine os (x_move rfl za) ?_
          refine os (x_bin rfl za za b_eql) ?_
          refine os (x_move rfl za) ?_
          refine o_guard rfl rfl za (fun g8 => ?_) (fun g8 => ?_)
          · have p8 := g8; try simp only [d1, d2, d3, d4, d5, d6, d7, d8, d9] at p8
            refine o_step (wA_on rfl rfl (by simp only [Tr.get_set, reduceIte, Nat.reduceEqDiff, Nat.reduceAdd, g6, g8] <;> rfl)) rfl (x_move rfl za) (by decide) ?_
            refine o_step (wA_on rfl rfl (by simp only [Tr.get_set, reduceIte, Nat.reduceEqDiff, Nat.reduceAdd, g6, g8] <;> rfl)) rfl (x_move rfl za) (by decide) ?_
            refine o_step (wA_on rfl rfl (by simp only [Tr.get_set, reduceIte, Nat.reduceEqDiff, Nat.reduceAdd, g6, g8] <;> rfl)) rfl (x_move rfl za) (by decide) ?_
            refine o_step (wA_on rfl rfl (by simp only [Tr.get_set, reduceIte, Nat.reduceEqDiff, Nat.reduceAdd, g6, g8] <;> rfl)) rfl (x_index rfl za za Try.underlying23 T.s43 (by omega) (by omega)) (by decide) ?_
            refine o_step (wA_on rfl rfl (by simp only [Tr.get_set, reduceIte, Nat.reduceEqDiff, Nat.reduceAdd, g6, g8] <;> rfl)) rfl (x_field0 rfl za Try.underlying43 rfl T.s3 rfl) (by decide) ?_
            refine o_step (wA_on rfl rfl (by simp only [Tr.get_set, reduceIte, Nat.reduceEqDiff, Nat.reduceAdd, g6, g8] <;> rfl)) rfl (x_load1 rfl za T.g3 (l_partI0 (K := 46) ((oA.keep (by (repeat (first | rw [Tr.get_set, if_neg (by omega)] | rw [hx13 _ (by omega)] | rw [hxS12 _ (by omega)] | rw [hx11 _ (by omega)] | rw [hxS10 _ (by omega)] | rw [hx9 _ (by omega)] | rw [hx8 _ (by omega)] | rw [hx7 _ (by omega)] | rw [hx6 _ (by omega)] | rw [hx5 _ (by omega)] | rw [hxS4 _ (by omega)] | rw [hx3 _ (by omega)] | rw [hx2 _ (by omega)] | rw [hx1 _ (by omega)])) <;> first | rfl | assumption | (rw [Tr.get_set, if_pos (by omega)]; done) | (rw [Tr.get_set, if_pos (by omega)]; rfl)) (by (repeat (first | rw [Tr.get_set, if_neg (by omega)] | rw [hx13 _ (by omega)] | rw [hxS12 _ (by omega)] | rw [hx11 _ (by omega)] | rw [hxS10 _ (by omega)] | rw [hx9 _ (by omega)] | rw [hx8 _ (by omega)] | rw [hx7 _ (by omega)] | rw [hx6 _ (by omega)] | rw [hx5 _ (by omega)] | rw [hxS4 _ (by omega)] | rw [hx3 _ (by omega)] | rw [hx2 _ (by omega)] | rw [hx1 _ (by omega)])) <;> first | rfl | assumption | (rw [Tr.get_set, if_pos (by omega)]; done) | (rw [Tr.get_set, if_pos (by omega)]; rfl))).whole) h_A rfl (by omega) (by omega) rfl)) (by decide) ?_
            refine o_call0 (wA_on rfl rfl (by simp only [Tr.get_set, reduceIte, Nat.reduceEqDiff, Nat.reduceAdd, g6, g8] <;> rfl)) rfl rfl rfl (by simp only [evs, ev_tmp, Tr.get_set, reduceIte, Nat.reduceEqDiff, Nat.reduceAdd, he13_9, he13_13, he13_14, he13_25, he13_26, he13_27, he13_28, g6, g8] <;> rfl) (by decide) ?_
            refine ⟨_, _, ((tab_miss (by decide)).trans ((tab_miss (by decide)).trans ((tab_miss (by decide)).trans ((tab_miss (by decide)).trans ((tab_miss (by decide)).trans ((tab_miss (by decide)).trans (tab_hit.trans (in_c (a3.rds.rd (by decide) (ints_free0 _)) (by rw [ok_in, decide_eq_true_eq]; omega))))))))), ?_⟩
            refine o_step (wA_on rfl rfl (by simp only [Tr.get_set, reduceIte, Nat.reduceEqDiff, Nat.reduceAdd, g6, g8] <;> rfl)) rfl (x_not rfl (by simp only [Tr.get_set, reduceIte, Nat.reduceEqDiff, Nat.reduceAdd, ev_tmp, g6, g8] <;> rfl)) (by decide) ?_
            refine os (x_pick rfl (by simp only [Tr.get_set, reduceIte, Nat.reduceEqDiff, Nat.reduceAdd, ev_tmp, g6, g8] <;> rfl) (by simp only [if_true, if_false, Bool.false_eq_true, ev_tmp, Tr.get_set, reduceIte, Nat.reduceEqDiff, Nat.reduceAdd, g6, g8]; rfl)) ?_
            refine o_done ?_
            refine e_seq ?_
            refine k_cond (by simp only [Tr.get_set, reduceIte, Nat.reduceEqDiff, Nat.reduceAdd, ev_tmp, g6, g8] <;> rfl) (fun g11 => ?_) (fun g11 => ?_)
            · have p11 := g11; try simp only [d1, d2, d3, d4, d5, d6, d7, d8, d9] at p11
              refine k_region hP hC ?_
              refine os (x_move rfl za) ?_
              refine os (x_move rfl za) ?_
              refine os (x_move rfl za) ?_
              refine os (x_index rfl za za Try.underlying23 T.s43 (by omega) (by omega)) ?_
              refine os (x_field0 rfl za Try.underlying43 rfl T.s3 rfl) ?_
              refine os (x_load1 rfl za T.g3 (l_partI0 (K := 46) ((oA.keep (by (repeat (first | rw [Tr.get_set, if_neg (by omega)] | rw [hx13 _ (by omega)] | rw [hxS12 _ (by omega)] | rw [hx11 _ (by omega)] | rw [hxS10 _ (by omega)] | rw [hx9 _ (by omega)] | rw [hx8 _ (by omega)] | rw [hx7 _ (by omega)] | rw [hx6 _ (by omega)] | rw [hx5 _ (by omega)] | rw [hxS4 _ (by omega)] | rw [hx3 _ (by omega)] | rw [hx2 _ (by omega)] | rw [hx1 _ (by omega)])) <;> first | rfl | assumption | (rw [Tr.get_set, if_pos (by omega)]; done) | (rw [Tr.get_set, if_pos (by omega)]; rfl)) (by (repeat (first | rw [Tr.get_set, if_neg (by omega)] | rw [hx13 _ (by omega)] | rw [hxS12 _ (by omega)] | rw [hx11 _ (by omega)] | rw [hxS10 _ (by omega)] | rw [hx9 _ (by omega)] | rw [hx8 _ (by omega)] | rw [hx7 _ (by omega)] | rw [hx6 _ (by omega)] | rw [hx5 _ (by omega)] | rw [hxS4 _ (by omega)] | rw [hx3 _ (by omega)] | rw [hx2 _ (by omega)] | rw [hx1 _ (by omega)])) <;> first | rfl | assumption | (rw [Tr.get_set, if_pos (by omega)]; done) | (rw [Tr.get_set, if_pos (by omega)]; rfl))).whole) h_A rfl (by omega) (by omega) rfl)) ?_
              refine os (y_bsliceV rfl za rfl Try.underlying22 T.s3 T.z3 rfl rfl) ?_
              refine o_appS a3 (by omega) (fun x hs => by rw [Tr.get_set, if_neg (by have := a3.bnd x hs; omega)]) (by omega) (wA_none rfl) rfl rfl rfl (by simp only [evs, ev_tmp, Tr.get_set, reduceIte, Nat.reduceEqDiff, Nat.reduceAdd, he13_9, he13_13, he13_14, he13_25, he13_26, he13_27, he13_28, g6, g8, g11] <;> rfl) rfl rfl zr (cells_row Try.underlying22 T.s3 (l_all (whole_row (by (repeat (first | rw [Tr.get_set, if_neg (by omega)] | rw [hx13 _ (by omega)] | rw [hxS12 _ (by omega)] | rw [hx11 _ (by omega)] | rw [hxS10 _ (by omega)] | rw [hx9 _ (by omega)] | rw [hx8 _ (by omega)] | rw [hx7 _ (by omega)] | rw [hx6 _ (by omega)] | rw [hx5 _ (by omega)] | rw [hxS4 _ (by omega)] | rw [hx3 _ (by omega)] | rw [hx2 _ (by omega)] | rw [hx1 _ (by omega)])) <;> first | rfl | assumption | (rw [Tr.get_set, if_pos (by omega)]; done) | (rw [Tr.get_set, if_pos (by omega)]; rfl)) rfl) rfl)) Try.underlying22 T.i22 (by decide) rfl (by omega) (by omega) rfl (by decide) (by decide) (fun vB tB wB b1B b2B aB kB => ?_)
              refine os (x_assign rfl za) ?_
              refine o_done ?_
              refine e_block ?_
              refine e_seq ?_
              refine k_region hP hC ?_
              refine os (x_move rfl za) ?_
              refine os (x_bin rfl za (by rfl) b_add) ?_
              refine os (x_assign rfl za) ?_
              refine o_done ?_
              refine e_loop ?_
              have hw1 : IntKind.i64.wrap (i + 1) = i + 1 := wr1 (by omega) (by omega)
              have hN := who_app (s := s) (L := A) h0 (by omega) (by assumption) (by assumption)
              refine ⟨IntKind.i64.wrap (i + 1), ⟨vB, _, _, _, _, _, rfl, za, za, za, za, za, za, za, by rw [hw1]; omega, by rw [hw1]; omega, by omega, by rw [hw1]; omega, by omega, by omega, fun id hid => by (repeat (first | rw [Tr.get_set, if_neg (by omega)] | rw [kB _ (no3 _ (by omega)) (by omega)] | rw [hx13 _ (by omega)] | rw [hxS12 _ (by omega)] | rw [hx11 _ (by omega)] | rw [hxS10 _ (by omega)] | rw [hx9 _ (by omega)] | rw [hx8 _ (by omega)] | rw [hx7 _ (by omega)] | rw [hx6 _ (by omega)] | rw [hx5 _ (by omega)] | rw [hxS4 _ (by omega)] | rw [hx3 _ (by omega)] | rw [hx2 _ (by omega)] | rw [hx1 _ (by omega)])) <;> first | rfl | assumption | (rw [Tr.get_set, if_pos (by omega)]; done) | (rw [Tr.get_set, if_pos (by omega)]; rfl), by rw [hw1, hN, ints_append, List.length_append]; exact aB⟩, ?_⟩
              · show (A.length - IntKind.i64.wrap (i + 1)).toNat < (A.length - i).toNat; rw [hw1]; omega
            · have p11 := g11; try simp only [d1, d2, d3, d4, d5, d6, d7, d8, d9] at p11
              refine k_skip ?_
              refine e_block ?_
              refine e_seq ?_
              refine k_region hP hC ?_
              refine os (x_move rfl za) ?_
              refine os (x_bin rfl za (by rfl) b_add) ?_
              refine os (x_assign rfl za) ?_
              refine o_done ?_
              refine e_loop ?_
              have hw1 : IntKind.i64.wrap (i + 1) = i + 1 := wr1 (by omega) (by omega)
              have hN := who_skip (s := s) (L := A) h0 (by omega) (by first | exact .inl (by assumption) | exact .inr (by assumption))
              refine ⟨IntKind.i64.wrap (i + 1), ⟨v27, _, _, _, _, _, rfl, za, za, za, za, za, za, za, by rw [hw1]; omega, by rw [hw1]; omega, by omega, by rw [hw1]; omega, by omega, by omega, fun id hid => by (repeat (first | rw [Tr.get_set, if_neg (by omega)] | rw [hx13 _ (by omega)] | rw [hxS12 _ (by omega)] | rw [hx11 _ (by omega)] | rw [hxS10 _ (by omega)] | rw [hx9 _ (by omega)] | rw [hx8 _ (by omega)] | rw [hx7 _ (by omega)] | rw [hx6 _ (by omega)] | rw [hx5 _ (by omega)] | rw [hxS4 _ (by omega)] | rw [hx3 _ (by omega)] | rw [hx2 _ (by omega)] | rw [hx1 _ (by omega)])) <;> first | rfl | assumption | (rw [Tr.get_set, if_pos (by omega)]; done) | (rw [Tr.get_set, if_pos (by omega)]; rfl), by rw [hw1, hN]; exact a3⟩, ?_⟩
              · show (A.length - IntKind.i64.wrap (i + 1)).toNat < (A.length - i).toNat; rw [hw1]; omega
          · have p8 := g8; try simp only [d1, d2, d3, d4, d5, d6, d7, d8, d9] at p8
            refine o_skip (wA_off rfl rfl (by simp only [Tr.get_set, reduceIte, Nat.reduceEqDiff, Nat.reduceAdd, g6, g8] <;> rfl)) rfl (by decide) ?_
            refine o_skip (wA_off rfl rfl (by simp only [Tr.get_set, reduceIte, Nat.reduceEqDiff, Nat.reduceAdd, g6, g8] <;> rfl)) rfl (by decide) ?_
            refine o_skip (wA_off rfl rfl (by simp only [Tr.get_set, reduceIte, Nat.reduceEqDiff, Nat.reduceAdd, g6, g8] <;> rfl)) rfl (by decide) ?_
            refine o_skip (wA_off rfl rfl (by simp only [Tr.get_set, reduceIte, Nat.reduceEqDiff, Nat.reduceAdd, g6, g8] <;> rfl)) rfl (by decide) ?_
            refine o_skip (wA_off rfl rfl (by simp only [Tr.get_set, reduceIte, Nat.reduceEqDiff, Nat.reduceAdd, g6, g8] <;> rfl)) rfl (by decide) ?_
            refine o_skip (wA_off rfl rfl (by simp only [Tr.get_set, reduceIte, Nat.reduceEqDiff, Nat.reduceAdd, g6, g8] <;> rfl)) rfl (by decide) ?_
            refine o_skip (wA_off rfl rfl (by simp only [Tr.get_set, reduceIte, Nat.reduceEqDiff, Nat.reduceAdd, g6, g8] <;> rfl)) rfl (by decide) ?_
            refine o_skip (wA_off rfl rfl (by simp only [Tr.get_set, reduceIte, Nat.reduceEqDiff, Nat.reduceAdd, g6, g8] <;> rfl)) rfl (by decide) ?_
            refine os (x_pick rfl (by simp only [Tr.get_set, reduceIte, Nat.reduceEqDiff, Nat.reduceAdd, ev_tmp, g6, g8] <;> rfl) (by simp only [if_true, if_false, Bool.false_eq_true, ev_tmp, Tr.get_set, reduceIte, Nat.reduceEqDiff, Nat.reduceAdd, g6, g8]; rfl)) ?_
            refine o_done ?_
            refine e_seq ?_
            refine k_condF (by simp only [Tr.get_set, reduceIte, Nat.reduceEqDiff, Nat.reduceAdd, ev_tmp, g6, g8] <;> rfl) ?_
            refine k_skip ?_
            refine e_block ?_
            refine e_seq ?_
            refine k_region hP hC ?_
            refine os (x_move rfl za) ?_
            refine os (x_bin rfl za (by rfl) b_add) ?_
            refine os (x_assign rfl za) ?_
            refine o_done ?_
            refine e_loop ?_
            have hw1 : IntKind.i64.wrap (i + 1) = i + 1 := wr1 (by omega) (by omega)
            have hN := who_skip (s := s) (L := A) h0 (by omega) (by first | exact .inl (by assumption) | exact .inr (by assumption))
            refine ⟨IntKind.i64.wrap (i + 1), ⟨v27, _, _, _, _, _, rfl, za, za, za, za, za, za, za, by rw [hw1]; omega, by rw [hw1]; omega, by omega, by rw [hw1]; omega, by omega, by omega, fun id hid => by (repeat (first | rw [Tr.get_set, if_neg (by omega)] | rw [hx13 _ (by omega)] | rw [hxS12 _ (by omega)] | rw [hx11 _ (by omega)] | rw [hxS10 _ (by omega)] | rw [hx9 _ (by omega)] | rw [hx8 _ (by omega)] | rw [hx7 _ (by omega)] | rw [hx6 _ (by omega)] | rw [hx5 _ (by omega)] | rw [hxS4 _ (by omega)] | rw [hx3 _ (by omega)] | rw [hx2 _ (by omega)] | rw [hx1 _ (by omega)])) <;> first | rfl | assumption | (rw [Tr.get_set, if_pos (by omega)]; done) | (rw [Tr.get_set, if_pos (by omega)]; rfl), by rw [hw1, hN]; exact a3⟩, ?_⟩
            · show (A.length - IntKind.i64.wrap (i + 1)).toNat < (A.length - i).toNat; rw [hw1]; omega
        · have p6 := g6; try simp only [d1, d2, d3, d4, d5, d6, d7, d8, d9] at p6
          refine k_exit ?_
          refine e_seq_exit ?_
          refine e_loop_exit ?_
          refine e_block_eq ?_
          refine e_seq ?_
          refine k_seq ?_
          refine k_region hP hC ?_
          refine os (x_assign rfl (by rfl)) ?_
          refine o_done ?_
          refine e_seq ?_
          refine k_seq ?_
          refine k_seq ?_
          refine k_region hP hC ?_
          refine os (x_assign rfl (by rfl)) ?_
          refine o_done ?_
          refine e_seq ?_
          refine k_block ?_
          have hi : i = A.length := by omega
          rw [hi, take_end (by omega)] at a3
          refine k_nm (fun tD nD qD hxD => ?_)
          have rY : RdS tD nD 1 v27 (whoF s A).length (ints (whoF s A)) := a3.rds.keep (by omega) (fun id hid => hxD id (by omega))
          have hwD : 1 ≤ wr ∧ wr ≤ BIG := ⟨w1, wb⟩
          refine k_loopI (α := Int × Int) (fun z q => ∃ e, q = ⟨e, 231, ⟨tD, nD, wr⟩⟩ ∧ e.get 9 = some (v1) ∧ e.get 13 = some (.int .i64 F) ∧ e.get 14 = some (v3) ∧ e.get 25 = some (v9) ∧ e.get 26 = some (.int .i64 s) ∧ e.get 27 = some (v27) ∧ e.get 29 = some (.int .i64 z.2) ∧ e.get 30 = some (.int .i64 z.1) ∧ 0 ≤ z.1 ∧ z.1 ≤ SA.length ∧ z.2 = cntS s (SA.take z.1.toNat) + cntS s (SB.take z.1.toNat)) (fun z => (SA.length - z.1).toNat) (0, 0) ⟨_, rfl, za, za, za, za, za, za, za, za, by decide, by omega, rfl⟩ ?_
          rintro ⟨j, n⟩ q ⟨e, rfl, he14_9, he14_13, he14_14, he14_25, he14_26, he14_27, he14_29, he14_30, j0, j1, hn⟩
          have he14_29 : e.get 29 = some (.int .i64 n) := he14_29
          have he14_30 : e.get 30 = some (.int .i64 j) := he14_30
          have j0 : 0 ≤ j := j0
          have j1 : j ≤ SA.length := j1
          have hn : n = cntS s (SA.take j.toNat) + cntS s (SB.take j.toNat) := hn
          have ct1 := @cnt_take s SA j.toNat
          have ct2 := @cnt_take s SB j.toNat
          refine k_seq ?_
          refine k_seq ?_
          refine k_region hP hC ?_
          refine os (x_move rfl za) ?_
          refine os (x_move rfl za) ?_
          refine os (x_lenD rS rfl rfl (by simp only [evs, ev_tmp, Tr.get_set, reduceIte, Nat.reduceEqDiff, Nat.reduceAdd, he14_9, he14_13, he14_14, he14_25, he14_26, he14_27, he14_29, he14_30] <;> rfl) rfl Try.underlying23) ?_
          refine os (x_bin rfl za za b_lss) ?_
          refine o_done ?_
          refine e_seq ?_
          refine k_cond (by simp only [Tr.get_set, reduceIte, Nat.reduceEqDiff, Nat.reduceAdd, ev_tmp, he14_9, he14_13, he14_14, he14_25, he14_26, he14_27, he14_29, he14_30] <;> rfl) (fun g13 => ?_) (fun g13 => ?_)
          · have p13 := g13; try simp only [d1, d2, d3, d4, d5, d6, d7, d8, d9] at p13
            refine k_skip ?_
            refine e_seq ?_
            refine k_seq ?_
            refine k_block ?_
            refine k_seq ?_
            refine k_seq ?_
            obtain ⟨iS, jS, hvS, oS, bjS, biS⟩ := rS.own (show 0 < SA.length by omega)
            obtain ⟨iO, jO, hvO, oO, bjO, biO⟩ := rO.own (show 0 < SB.length by omega)
            subst hvS; subst hvO
            have cn1 := cnt_next (s := s) (M := SA) j0 (show j < SA.length by omega)
            have cn2 := cnt_next (s := s) (M := SB) j0 (show j < SB.length by omega)
            refine k_region hP hC ?_
            refine os (x_move rfl za) ?_
            refine os (x_move rfl za) ?_
            refine os (x_index rfl za za Try.underlying23 T.s43 (by omega) (by omega)) ?_
            refine os (x_loadA rfl za T.g43 T.s43 (l_elem ((oS.keep (by (repeat (first | rw [Tr.get_set, if_neg (by omega)] | rw [hxD _ (by omega)] | rw [hx13 _ (by omega)] | rw [hxS12 _ (by omega)] | rw [hx11 _ (by omega)] | rw [hxS10 _ (by omega)] | rw [hx9 _ (by omega)] | rw [hx8 _ (by omega)] | rw [hx7 _ (by omega)] | rw [hx6 _ (by omega)] | rw [hx5 _ (by omega)] | rw [hxS4 _ (by omega)] | rw [hx3 _ (by omega)] | rw [hx2 _ (by omega)] | rw [hx1 _ (by omega)])) <;> first | rfl | assumption | (rw [Tr.get_set, if_pos (by omega)]; done) | (rw [Tr.get_set, if_pos (by omega)]; rfl)) (by (repeat (first | rw [Tr.get_set, if_neg (by omega)] | rw [hxD _ (by omega)] | rw [hx13 _ (by omega)] | rw [hxS12 _ (by omega)] | rw [hx11 _ (by omega)] | rw [hxS10 _ (by omega)] | rw [hx9 _ (by omega)] | rw [hx8 _ (by omega)] | rw [hx7 _ (by omega)] | rw [hx6 _ (by omega)] | rw [hx5 _ (by omega)] | rw [hxS4 _ (by omega)] | rw [hx3 _ (by omega)] | rw [hx2 _ (by omega)] | rw [hx1 _ (by omega)])) <;> first | rfl | assumption | (rw [Tr.get_set, if_pos (by omega)]; done) | (rw [Tr.get_set, if_pos (by omega)]; rfl))).whole) h_SA rfl (by omega) (by omega))) ?_
            refine o_call0 (wA_none rfl) rfl rfl rfl (by simp only [evs, ev_tmp, Tr.get_set, reduceIte, Nat.reduceEqDiff, Nat.reduceAdd, he14_9, he14_13, he14_14, he14_25, he14_26, he14_27, he14_29, he14_30, g13] <;> rfl) (by decide) ?_
            refine ⟨_, _, ((tab_miss (by decide)).trans ((tab_miss (by decide)).trans ((tab_miss (by decide)).trans ((tab_miss (by decide)).trans ((tab_miss (by decide)).trans ((tab_miss (by decide)).trans ((tab_miss (by decide)).trans (tab_hit.trans (wrong33_cF (cf_nth h_SA j0 (by omega)) (hinA j j0 (by omega)) (hrtA j j0 (by omega))))))))))), ?_⟩
            refine os (x_move rfl za) ?_
            refine o_step (wA_on rfl rfl (by simp only [Tr.get_set, reduceIte, Nat.reduceEqDiff, Nat.reduceAdd, g13] <;> rfl)) rfl (x_move rfl za) (by decide) ?_
            refine o_step (wA_on rfl rfl (by simp only [Tr.get_set, reduceIte, Nat.reduceEqDiff, Nat.reduceAdd, g13] <;> rfl)) rfl (x_move rfl za) (by decide) ?_
            refine o_step (wA_on rfl rfl (by simp only [Tr.get_set, reduceIte, Nat.reduceEqDiff, Nat.reduceAdd, g13] <;> rfl)) rfl (x_index rfl za za Try.underlying23 T.s43 (by omega) (by omega)) (by decide) ?_
            refine o_step (wA_on rfl rfl (by simp only [Tr.get_set, reduceIte, Nat.reduceEqDiff, Nat.reduceAdd, g13] <;> rfl)) rfl (x_loadA rfl za T.g43 T.s43 (l_elem ((oO.keep (by (repeat (first | rw [Tr.get_set, if_neg (by omega)] | rw [hxD _ (by omega)] | rw [hx13 _ (by omega)] | rw [hxS12 _ (by omega)] | rw [hx11 _ (by omega)] | rw [hxS10 _ (by omega)] | rw [hx9 _ (by omega)] | rw [hx8 _ (by omega)] | rw [hx7 _ (by omega)] | rw [hx6 _ (by omega)] | rw [hx5 _ (by omega)] | rw [hxS4 _ (by omega)] | rw [hx3 _ (by omega)] | rw [hx2 _ (by omega)] | rw [hx1 _ (by omega)])) <;> first | rfl | assumption | (rw [Tr.get_set, if_pos (by omega)]; done) | (rw [Tr.get_set, if_pos (by omega)]; rfl)) (by (repeat (first | rw [Tr.get_set, if_neg (by omega)] | rw [hxD _ (by omega)] | rw [hx13 _ (by omega)] | rw [hxS12 _ (by omega)] | rw [hx11 _ (by omega)] | rw [hxS10 _ (by omega)] | rw [hx9 _ (by omega)] | rw [hx8 _ (by omega)] | rw [hx7 _ (by omega)] | rw [hx6 _ (by omega)] | rw [hx5 _ (by omega)] | rw [hxS4 _ (by omega)] | rw [hx3 _ (by omega)] | rw [hx2 _ (by omega)] | rw [hx1 _ (by omega)])) <;> first | rfl | assumption | (rw [Tr.get_set, if_pos (by omega)]; done) | (rw [Tr.get_set, if_pos (by omega)]; rfl))).whole) h_SB rfl (by omega) (by omega))) (by decide) ?_
            refine o_call0 (wA_on rfl rfl (by simp only [Tr.get_set, reduceIte, Nat.reduceEqDiff, Nat.reduceAdd, g13] <;> rfl)) rfl rfl rfl (by simp only [evs, ev_tmp, Tr.get_set, reduceIte, Nat.reduceEqDiff, Nat.reduceAdd, he14_9, he14_13, he14_14, he14_25, he14_26, he14_27, he14_29, he14_30, g13] <;> rfl) (by decide) ?_
            refine ⟨_, _, ((tab_miss (by decide)).trans ((tab_miss (by decide)).trans ((tab_miss (by decide)).trans ((tab_miss (by decide)).trans ((tab_miss (by decide)).trans ((tab_miss (by decide)).trans ((tab_miss (by decide)).trans (tab_hit.trans (wrong33_cF (cf_nth h_SB j0 (by omega)) (hinB j j0 (by omega)) (hrtB j j0 (by omega))))))))))), ?_⟩
            refine os (x_pick rfl (by simp only [Tr.get_set, reduceIte, Nat.reduceEqDiff, Nat.reduceAdd, ev_tmp, g13] <;> rfl) (by simp only [if_true, if_false, Bool.false_eq_true, ev_tmp, Tr.get_set, reduceIte, Nat.reduceEqDiff, Nat.reduceAdd, g13]; rfl)) ?_
            refine o_done ?_
            refine e_seq ?_
            refine k_condF (by simp only [Tr.get_set, reduceIte, Nat.reduceEqDiff, Nat.reduceAdd, ev_tmp, g13] <;> rfl) ?_
            refine k_skip ?_
            refine e_seq ?_
            refine k_seq ?_
            refine k_seq ?_
            refine k_region hP hC ?_
            refine os (x_move rfl za) ?_
            refine os (x_move rfl za) ?_
            refine os (x_index rfl za za Try.underlying23 T.s43 (by omega) (by omega)) ?_
            refine os (x_fieldK (a := 2) rfl za Try.underlying43 rfl T.s37 rfl) ?_
            refine os (x_field (off' := 0 + _ * _ + 22) rfl za Try.underlying37 rfl T.s3 rfl) ?_
            refine os (x_load1 rfl za T.g3 (l_partI (a := 22) (K := 46) ((oS.keep (by (repeat (first | rw [Tr.get_set, if_neg (by omega)] | rw [hxD _ (by omega)] | rw [hx13 _ (by omega)] | rw [hxS12 _ (by omega)] | rw [hx11 _ (by omega)] | rw [hxS10 _ (by omega)] | rw [hx9 _ (by omega)] | rw [hx8 _ (by omega)] | rw [hx7 _ (by omega)] | rw [hx6 _ (by omega)] | rw [hx5 _ (by omega)] | rw [hxS4 _ (by omega)] | rw [hx3 _ (by omega)] | rw [hx2 _ (by omega)] | rw [hx1 _ (by omega)])) <;> first | rfl | assumption | (rw [Tr.get_set, if_pos (by omega)]; done) | (rw [Tr.get_set, if_pos (by omega)]; rfl)) (by (repeat (first | rw [Tr.get_set, if_neg (by omega)] | rw [hxD _ (by omega)] | rw [hx13 _ (by omega)] | rw [hxS12 _ (by omega)] | rw [hx11 _ (by omega)] | rw [hxS10 _ (by omega)] | rw [hx9 _ (by omega)] | rw [hx8 _ (by omega)] | rw [hx7 _ (by omega)] | rw [hx6 _ (by omega)] | rw [hx5 _ (by omega)] | rw [hxS4 _ (by omega)] | rw [hx3 _ (by omega)] | rw [hx2 _ (by omega)] | rw [hx1 _ (by omega)])) <;> first | rfl | assumption | (rw [Tr.get_set, if_pos (by omega)]; done) | (rw [Tr.get_set, if_pos (by omega)]; rfl))).whole) h_SA rfl (by omega) (by omega) rfl)) ?_
            refine os (x_move rfl za) ?_
            refine os (x_bin rfl za za b_eql) ?_
            refine o_done ?_
            refine e_seq ?_
            refine k_cond (by simp only [Tr.get_set, reduceIte, Nat.reduceEqDiff, Nat.reduceAdd, ev_tmp, g13] <;> rfl) (fun g15 => ?_) (fun g15 => ?_)
            · have p15 := g15; try simp only [d1, d2, d3, d4, d5, d6, d7, d8, d9] at p15
              refine k_region hP hC ?_
              refine os (x_move rfl za) ?_
              refine os (x_bin (u := .int .i64 (n + 1)) rfl za (by rfl) (by rw [b_add, IntWalk.i64_in _ (by omega)])) ?_
              refine os (x_assign rfl za) ?_
              refine o_done ?_
              refine e_seq ?_
              refine k_seq ?_
              refine k_region hP hC ?_
              refine os (x_move rfl za) ?_
              refine os (x_move rfl za) ?_
              refine os (x_index rfl za za Try.underlying23 T.s43 (by omega) (by omega)) ?_
              refine os (x_fieldK (a := 2) rfl za Try.underlying43 rfl T.s37 rfl) ?_
              refine os (x_field (off' := 0 + _ * _ + 22) rfl za Try.underlying37 rfl T.s3 rfl) ?_
              refine os (x_load1 rfl za T.g3 (l_partI (a := 22) (K := 46) ((oO.keep (by (repeat (first | rw [Tr.get_set, if_neg (by omega)] | rw [hxD _ (by omega)] | rw [hx13 _ (by omega)] | rw [hxS12 _ (by omega)] | rw [hx11 _ (by omega)] | rw [hxS10 _ (by omega)] | rw [hx9 _ (by omega)] | rw [hx8 _ (by omega)] | rw [hx7 _ (by omega)] | rw [hx6 _ (by omega)] | rw [hx5 _ (by omega)] | rw [hxS4 _ (by omega)] | rw [hx3 _ (by omega)] | rw [hx2 _ (by omega)] | rw [hx1 _ (by omega)])) <;> first | rfl | assumption | (rw [Tr.get_set, if_pos (by omega)]; done) | (rw [Tr.get_set, if_pos (by omega)]; rfl)) (by (repeat (first | rw [Tr.get_set, if_neg (by omega)] | rw [hxD _ (by omega)] | rw [hx13 _ (by omega)] | rw [hxS12 _ (by omega)] | rw [hx11 _ (by omega)] | rw [hxS10 _ (by omega)] | rw [hx9 _ (by omega)] | rw [hx8 _ (by omega)] | rw [hx7 _ (by omega)] | rw [hx6 _ (by omega)] | rw [hx5 _ (by omega)] | rw [hxS4 _ (by omega)] | rw [hx3 _ (by omega)] | rw [hx2 _ (by omega)] | rw [hx1 _ (by omega)])) <;> first | rfl | assumption | (rw [Tr.get_set, if_pos (by omega)]; done) | (rw [Tr.get_set, if_pos (by omega)]; rfl))).whole) h_SB rfl (by omega) (by omega) rfl)) ?_
              refine os (x_move rfl za) ?_
              refine os (x_bin rfl za za b_eql) ?_
              refine o_done ?_
              refine e_seq ?_
              refine k_cond (by simp only [Tr.get_set, reduceIte, Nat.reduceEqDiff, Nat.reduceAdd, ev_tmp, g13, g15] <;> rfl) (fun g17 => ?_) (fun g17 => ?_)
              · have p17 := g17; try simp only [d1, d2, d3, d4, d5, d6, d7, d8, d9] at p17
                refine k_region hP hC ?_
                refine os (x_move rfl za) ?_
                refine os (x_bin (u := .int .i64 ((n + 1) + 1)) rfl za (by rfl) (by rw [b_add, IntWalk.i64_in _ (by omega)])) ?_
                refine os (x_assign rfl za) ?_
                refine o_done ?_
                refine e_block ?_
                refine e_seq ?_
                refine k_region hP hC ?_
                refine os (x_move rfl za) ?_
                refine os (x_bin rfl za (by rfl) b_add) ?_
                refine os (x_assign rfl za) ?_
                refine o_done ?_
                refine e_loop ?_
                have hw1 : IntKind.i64.wrap (j + 1) = j + 1 := wr1 (by omega) (by omega)
                rw [if_pos (by assumption)] at cn1
                rw [if_pos (by assumption)] at cn2
                refine ⟨(IntKind.i64.wrap (j + 1), ((n + 1) + 1)), ⟨_, rfl, za, za, za, za, za, za, za, za, by show 0 ≤ IntKind.i64.wrap (j + 1); rw [hw1]; omega, by show IntKind.i64.wrap (j + 1) ≤ _; rw [hw1]; omega, by show ((n + 1) + 1) = cntS s (SA.take (IntKind.i64.wrap (j + 1)).toNat) + cntS s (SB.take (IntKind.i64.wrap (j + 1)).toNat); rw [hw1, cn1, cn2]; omega⟩, ?_⟩
                · show (SA.length - IntKind.i64.wrap (j + 1)).toNat < (SA.length - j).toNat; rw [hw1]; omega
              · have p17 := g17; try simp only [d1, d2, d3, d4, d5, d6, d7, d8, d9] at p17
                refine k_skip ?_
                refine e_block ?_
                refine e_seq ?_
                refine k_region hP hC ?_
                refine os (x_move rfl za) ?_
                refine os (x_bin rfl za (by rfl) b_add) ?_
                refine os (x_assign rfl za) ?_
                refine o_done ?_
                refine e_loop ?_
                have hw1 : IntKind.i64.wrap (j + 1) = j + 1 := wr1 (by omega) (by omega)
                rw [if_pos (by assumption)] at cn1
                rw [if_neg (by assumption)] at cn2
                refine ⟨(IntKind.i64.wrap (j + 1), (n + 1)), ⟨_, rfl, za, za, za, za, za, za, za, za, by show 0 ≤ IntKind.i64.wrap (j + 1); rw [hw1]; omega, by show IntKind.i64.wrap (j + 1) ≤ _; rw [hw1]; omega, by show (n + 1) = cntS s (SA.take (IntKind.i64.wrap (j + 1)).toNat) + cntS s (SB.take (IntKind.i64.wrap (j + 1)).toNat); rw [hw1, cn1, cn2]; omega⟩, ?_⟩
                · show (SA.length - IntKind.i64.wrap (j + 1)).toNat < (SA.length - j).toNat; rw [hw1]; omega
            · have p15 := g15; try simp only [d1, d2, d3, d4, d5, d6, d7, d8, d9] at p15
              refine k_skip ?_
              refine e_seq ?_
              refine k_seq ?_
              refine k_region hP hC ?_
              refine os (x_move rfl za) ?_
              refine os (x_move rfl za) ?_
              refine os (x_index rfl za za Try.underlying23 T.s43 (by omega) (by omega)) ?_
              refine os (x_fieldK (a := 2) rfl za Try.underlying43 rfl T.s37 rfl) ?_
              refine os (x_field (off' := 0 + _ * _ + 22) rfl za Try.underlying37 rfl T.s3 rfl) ?_
              refine os (x_load1 rfl za T.g3 (l_partI (a := 22) (K := 46) ((oO.keep (by (repeat (first | rw [Tr.get_set, if_neg (by omega)] | rw [hxD _ (by omega)] | rw [hx13 _ (by omega)] | rw [hxS12 _ (by omega)] | rw [hx11 _ (by omega)] | rw [hxS10 _ (by omega)] | rw [hx9 _ (by omega)] | rw [hx8 _ (by omega)] | rw [hx7 _ (by omega)] | rw [hx6 _ (by omega)] | rw [hx5 _ (by omega)] | rw [hxS4 _ (by omega)] | rw [hx3 _ (by omega)] | rw [hx2 _ (by omega)] | rw [hx1 _ (by omega)])) <;> first | rfl | assumption | (rw [Tr.get_set, if_pos (by omega)]; done) | (rw [Tr.get_set, if_pos (by omega)]; rfl)) (by (repeat (first | rw [Tr.get_set, if_neg (by omega)] | rw [hxD _ (by omega)] | rw [hx13 _ (by omega)] | rw [hxS12 _ (by omega)] | rw [hx11 _ (by omega)] | rw [hxS10 _ (by omega)] | rw [hx9 _ (by omega)] | rw [hx8 _ (by omega)] | rw [hx7 _ (by omega)] | rw [hx6 _ (by omega)] | rw [hx5 _ (by omega)] | rw [hxS4 _ (by omega)] | rw [hx3 _ (by omega)] | rw [hx2 _ (by omega)] | rw [hx1 _ (by omega)])) <;> first | rfl | assumption | (rw [Tr.get_set, if_pos (by omega)]; done) | (rw [Tr.get_set, if_pos (by omega)]; rfl))).whole) h_SB rfl (by omega) (by omega) rfl)) ?_
              refine os (x_move rfl za) ?_
              refine os (x_bin rfl za za b_eql) ?_
              refine o_done ?_
              refine e_seq ?_
              refine k_cond (by simp only [Tr.get_set, reduceIte, Nat.reduceEqDiff, Nat.reduceAdd, ev_tmp, g13, g15] <;> rfl) (fun g19 => ?_) (fun g19 => ?_)
              · have p19 := g19; try simp only [d1, d2, d3, d4, d5, d6, d7, d8, d9] at p19
                refine k_region hP hC ?_
                refine os (x_move rfl za) ?_
                refine os (x_bin (u := .int .i64 (n + 1)) rfl za (by rfl) (by rw [b_add, IntWalk.i64_in _ (by omega)])) ?_
                refine os (x_assign rfl za) ?_
                refine o_done ?_
                refine e_block ?_
                refine e_seq ?_
                refine k_region hP hC ?_
                refine os (x_move rfl za) ?_
                refine os (x_bin rfl za (by rfl) b_add) ?_
                refine os (x_assign rfl za) ?_
                refine o_done ?_
                refine e_loop ?_
                have hw1 : IntKind.i64.wrap (j + 1) = j + 1 := wr1 (by omega) (by omega)
                rw [if_neg (by assumption)] at cn1
                rw [if_pos (by assumption)] at cn2
                refine ⟨(IntKind.i64.wrap (j + 1), (n + 1)), ⟨_, rfl, za, za, za, za, za, za, za, za, by show 0 ≤ IntKind.i64.wrap (j + 1); rw [hw1]; omega, by show IntKind.i64.wrap (j + 1) ≤ _; rw [hw1]; omega, by show (n + 1) = cntS s (SA.take (IntKind.i64.wrap (j + 1)).toNat) + cntS s (SB.take (IntKind.i64.wrap (j + 1)).toNat); rw [hw1, cn1, cn2]; omega⟩, ?_⟩
                · show (SA.length - IntKind.i64.wrap (j + 1)).toNat < (SA.length - j).toNat; rw [hw1]; omega
              · have p19 := g19; try simp only [d1, d2, d3, d4, d5, d6, d7, d8, d9] at p19
                refine k_skip ?_
                refine e_block ?_
                refine e_seq ?_
                refine k_region hP hC ?_
                refine os (x_move rfl za) ?_
                refine os (x_bin rfl za (by rfl) b_add) ?_
                refine os (x_assign rfl za) ?_
                refine o_done ?_
                refine e_loop ?_
                have hw1 : IntKind.i64.wrap (j + 1) = j + 1 := wr1 (by omega) (by omega)
                rw [if_neg (by assumption)] at cn1
                rw [if_neg (by assumption)] at cn2
                refine ⟨(IntKind.i64.wrap (j + 1), n), ⟨_, rfl, za, za, za, za, za, za, za, za, by show 0 ≤ IntKind.i64.wrap (j + 1); rw [hw1]; omega, by show IntKind.i64.wrap (j + 1) ≤ _; rw [hw1]; omega, by show n = cntS s (SA.take (IntKind.i64.wrap (j + 1)).toNat) + cntS s (SB.take (IntKind.i64.wrap (j + 1)).toNat); rw [hw1, cn1, cn2]; omega⟩, ?_⟩
                · show (SA.length - IntKind.i64.wrap (j + 1)).toNat < (SA.length - j).toNat; rw [hw1]; omega
          · have p13 := g13; try simp only [d1, d2, d3, d4, d5, d6, d7, d8, d9] at p13
            refine k_exit ?_
            refine e_seq_exit ?_
            refine e_loop_exit ?_
            refine e_block_eq ?_
            refine e_seq ?_
            refine k_seq ?_
            have hj : j = SA.length := by omega
            rw [hj, take_end (by omega), take_end (by omega)] at hn
            have hc1 := cnt_le (s := s) (agreed_pair (F := F) h_A) (fun x hx => hMk.ask x (agreed_mem h_A hx).1)
            have hc2 := cnt_same (F := F) hMk hMkB hmem s
            rw [← hSA] at hc1
            rw [← hSA, ← hSB] at hc2
            have hn2 : n = 0 ∨ n = 2 := by omega
            rcases hn2 with hz | hz
            · subst hz
              have hws := who_sure (s := s) hMk hFW (by rw [← hSA]; omega)
              refine k_region hP hC ?_
              refine os (x_move rfl za) ?_
              refine os (x_bin (u := .bool false) rfl za (by rfl) (by rw [b_neq]; first | rfl | (congr 2; exact decide_eq_false (by omega)))) ?_
              refine os (x_move rfl za) ?_
              refine o_skip (wA_off rfl rfl (by simp only [Tr.get_set, reduceIte, Nat.reduceEqDiff, Nat.reduceAdd, g13] <;> rfl)) rfl (by decide) ?_
              refine o_skip (wA_off rfl rfl (by simp only [Tr.get_set, reduceIte, Nat.reduceEqDiff, Nat.reduceAdd, g13] <;> rfl)) rfl (by decide) ?_
              refine os (x_pick rfl (by simp only [Tr.get_set, reduceIte, Nat.reduceEqDiff, Nat.reduceAdd, ev_tmp, g13] <;> rfl) (by simp only [if_true, if_false, Bool.false_eq_true, ev_tmp, Tr.get_set, reduceIte, Nat.reduceEqDiff, Nat.reduceAdd, g13]; rfl)) ?_
              refine os (x_move rfl za) ?_
              refine o_step (wA_on rfl rfl (by simp only [Tr.get_set, reduceIte, Nat.reduceEqDiff, Nat.reduceAdd, g13] <;> rfl)) rfl (x_move rfl za) (by decide) ?_
              refine o_step (wA_on rfl rfl (by simp only [Tr.get_set, reduceIte, Nat.reduceEqDiff, Nat.reduceAdd, g13] <;> rfl)) rfl (x_bin (u := .bool true) rfl za (by rfl) (by rw [b_eql]; first | rfl | (congr 2; exact decide_eq_false (by omega)))) (by decide) ?_
              refine o_step (wA_on rfl rfl (by simp only [Tr.get_set, reduceIte, Nat.reduceEqDiff, Nat.reduceAdd, g13] <;> rfl)) rfl (x_move rfl za) (by decide) ?_
              refine o_step (wA_on rfl rfl (by simp only [Tr.get_set, reduceIte, Nat.reduceEqDiff, Nat.reduceAdd, g13] <;> rfl)) rfl (x_move rfl za) (by decide) ?_
              refine o_step (wA_on rfl rfl (by simp only [Tr.get_set, reduceIte, Nat.reduceEqDiff, Nat.reduceAdd, g13] <;> rfl)) rfl (x_lenD rY rfl rfl (by simp only [evs, ev_tmp, Tr.get_set, reduceIte, Nat.reduceEqDiff, Nat.reduceAdd, he14_9, he14_13, he14_14, he14_25, he14_26, he14_27, he14_29, he14_30, g13] <;> rfl) rfl Try.underlying22) (by decide) ?_
              refine o_step (wA_on rfl rfl (by simp only [Tr.get_set, reduceIte, Nat.reduceEqDiff, Nat.reduceAdd, g13] <;> rfl)) rfl (x_move rfl za) (by decide) ?_
              refine o_step (wA_on rfl rfl (by simp only [Tr.get_set, reduceIte, Nat.reduceEqDiff, Nat.reduceAdd, g13] <;> rfl)) rfl (x_bin (u := .int .i64 (2 * F)) rfl (by rfl) za (by rw [b_mul]; rw [IntWalk.i64_in _ (by omega)])) (by decide) ?_
              refine o_step (wA_on rfl rfl (by simp only [Tr.get_set, reduceIte, Nat.reduceEqDiff, Nat.reduceAdd, g13] <;> rfl)) rfl (x_bin (u := .bool false) rfl za za (by rw [b_gtr]; first | rfl | (congr 2; exact decide_eq_false (by omega)))) (by decide) ?_
              refine o_step (wA_on rfl rfl (by simp only [Tr.get_set, reduceIte, Nat.reduceEqDiff, Nat.reduceAdd, g13] <;> rfl)) rfl (x_pick rfl (by simp only [Tr.get_set, reduceIte, Nat.reduceEqDiff, Nat.reduceAdd, ev_tmp, g13] <;> rfl) (by simp only [if_true, if_false, Bool.false_eq_true, ev_tmp, Tr.get_set, reduceIte, Nat.reduceEqDiff, Nat.reduceAdd, g13]; rfl)) (by decide) ?_
              refine os (x_pick rfl (by simp only [Tr.get_set, reduceIte, Nat.reduceEqDiff, Nat.reduceAdd, ev_tmp, g13] <;> rfl) (by simp only [if_true, if_false, Bool.false_eq_true, ev_tmp, Tr.get_set, reduceIte, Nat.reduceEqDiff, Nat.reduceAdd, g13]; rfl)) ?_
              refine o_done ?_
              refine e_seq ?_
              refine k_condF (by simp only [Tr.get_set, reduceIte, Nat.reduceEqDiff, Nat.reduceAdd, ev_tmp, g13] <;> rfl) ?_
              refine k_skip ?_
              refine e_block ?_
              refine e_seq ?_
              refine k_region hP hC ?_
              refine os (x_move rfl za) ?_
              refine os (x_bin rfl za (by rfl) b_add) ?_
              refine os (x_assign rfl za) ?_
              refine o_done ?_
              refine e_loop ?_
              have hw1 : IntKind.i64.wrap (s + 1) = s + 1 := wr1 (by omega) (by omega)
              refine ⟨IntKind.i64.wrap (s + 1), ⟨_, _, _, _, rfl, za, za, za, za, za, by rw [hw1]; omega, by rw [hw1]; omega, by omega, by rw [hw1]; omega, by omega, by omega, fun id hid => by (repeat (first | rw [Tr.get_set, if_neg (by omega)] | rw [hxD _ (by omega)] | rw [hx13 _ (by omega)] | rw [hxS12 _ (by omega)] | rw [hx11 _ (by omega)] | rw [hxS10 _ (by omega)] | rw [hx9 _ (by omega)] | rw [hx8 _ (by omega)] | rw [hx7 _ (by omega)] | rw [hx6 _ (by omega)] | rw [hx5 _ (by omega)] | rw [hxS4 _ (by omega)] | rw [hx3 _ (by omega)] | rw [hx2 _ (by omega)] | rw [hx1 _ (by omega)])) <;> first | rfl | assumption | (rw [Tr.get_set, if_pos (by omega)]; done) | (rw [Tr.get_set, if_pos (by omega)]; rfl)⟩, ?_⟩
              · show (4 - IntKind.i64.wrap (s + 1)).toNat < (4 - s).toNat; rw [hw1]; omega
            · subst hz
              refine k_region hP hC ?_
              refine os (x_move rfl za) ?_
              refine os (x_bin (u := .bool true) rfl za (by rfl) (by rw [b_neq]; first | rfl | (congr 2; exact decide_eq_false (by omega)))) ?_
              refine os (x_move rfl za) ?_
              refine o_step (wA_on rfl rfl (by simp only [Tr.get_set, reduceIte, Nat.reduceEqDiff, Nat.reduceAdd, g13] <;> rfl)) rfl (x_move rfl za) (by decide) ?_
              refine o_step (wA_on rfl rfl (by simp only [Tr.get_set, reduceIte, Nat.reduceEqDiff, Nat.reduceAdd, g13] <;> rfl)) rfl (x_bin (u := .bool false) rfl za (by rfl) (by rw [b_neq]; first | rfl | (congr 2; exact decide_eq_false (by omega)))) (by decide) ?_
              refine os (x_pick rfl (by simp only [Tr.get_set, reduceIte, Nat.reduceEqDiff, Nat.reduceAdd, ev_tmp, g13] <;> rfl) (by simp only [if_true, if_false, Bool.false_eq_true, ev_tmp, Tr.get_set, reduceIte, Nat.reduceEqDiff, Nat.reduceAdd, g13]; rfl)) ?_
              refine os (x_move rfl za) ?_
              refine o_step (wA_on rfl rfl (by simp only [Tr.get_set, reduceIte, Nat.reduceEqDiff, Nat.reduceAdd, g13] <;> rfl)) rfl (x_move rfl za) (by decide) ?_
              refine o_step (wA_on rfl rfl (by simp only [Tr.get_set, reduceIte, Nat.reduceEqDiff, Nat.reduceAdd, g13] <;> rfl)) rfl (x_bin (u := .bool false) rfl za (by rfl) (by rw [b_eql]; first | rfl | (congr 2; exact decide_eq_false (by omega)))) (by decide) ?_
              refine o_step (wA_on rfl rfl (by simp only [Tr.get_set, reduceIte, Nat.reduceEqDiff, Nat.reduceAdd, g13] <;> rfl)) rfl (x_move rfl za) (by decide) ?_
              refine o_skip (wA_off rfl rfl (by simp only [Tr.get_set, reduceIte, Nat.reduceEqDiff, Nat.reduceAdd, g13] <;> rfl)) rfl (by decide) ?_
              refine o_skip (wA_off rfl rfl (by simp only [Tr.get_set, reduceIte, Nat.reduceEqDiff, Nat.reduceAdd, g13] <;> rfl)) rfl (by decide) ?_
              refine o_skip (wA_off rfl rfl (by simp only [Tr.get_set, reduceIte, Nat.reduceEqDiff, Nat.reduceAdd, g13] <;> rfl)) rfl (by decide) ?_
              refine o_skip (wA_off rfl rfl (by simp only [Tr.get_set, reduceIte, Nat.reduceEqDiff, Nat.reduceAdd, g13] <;> rfl)) rfl (by decide) ?_
              refine o_skip (wA_off rfl rfl (by simp only [Tr.get_set, reduceIte, Nat.reduceEqDiff, Nat.reduceAdd, g13] <;> rfl)) rfl (by decide) ?_
              refine o_step (wA_on rfl rfl (by simp only [Tr.get_set, reduceIte, Nat.reduceEqDiff, Nat.reduceAdd, g13] <;> rfl)) rfl (x_pick rfl (by simp only [Tr.get_set, reduceIte, Nat.reduceEqDiff, Nat.reduceAdd, ev_tmp, g13] <;> rfl) (by simp only [if_true, if_false, Bool.false_eq_true, ev_tmp, Tr.get_set, reduceIte, Nat.reduceEqDiff, Nat.reduceAdd, g13]; rfl)) (by decide) ?_
              refine os (x_pick rfl (by simp only [Tr.get_set, reduceIte, Nat.reduceEqDiff, Nat.reduceAdd, ev_tmp, g13] <;> rfl) (by simp only [if_true, if_false, Bool.false_eq_true, ev_tmp, Tr.get_set, reduceIte, Nat.reduceEqDiff, Nat.reduceAdd, g13]; rfl)) ?_
              refine o_done ?_
              refine e_seq ?_
              refine k_condF (by simp only [Tr.get_set, reduceIte, Nat.reduceEqDiff, Nat.reduceAdd, ev_tmp, g13] <;> rfl) ?_
              refine k_skip ?_
              refine e_block ?_
              refine e_seq ?_
              refine k_region hP hC ?_
              refine os (x_move rfl za) ?_
              refine os (x_bin rfl za (by rfl) b_add) ?_
              refine os (x_assign rfl za) ?_
              refine o_done ?_
              refine e_loop ?_
              have hw1 : IntKind.i64.wrap (s + 1) = s + 1 := wr1 (by omega) (by omega)
              refine ⟨IntKind.i64.wrap (s + 1), ⟨_, _, _, _, rfl, za, za, za, za, za, by rw [hw1]; omega, by rw [hw1]; omega, by omega, by rw [hw1]; omega, by omega, by omega, fun id hid => by (repeat (first | rw [Tr.get_set, if_neg (by omega)] | rw [hxD _ (by omega)] | rw [hx13 _ (by omega)] | rw [hxS12 _ (by omega)] | rw [hx11 _ (by omega)] | rw [hxS10 _ (by omega)] | rw [hx9 _ (by omega)] | rw [hx8 _ (by omega)] | rw [hx7 _ (by omega)] | rw [hx6 _ (by omega)] | rw [hx5 _ (by omega)] | rw [hxS4 _ (by omega)] | rw [hx3 _ (by omega)] | rw [hx2 _ (by omega)] | rw [hx1 _ (by omega)])) <;> first | rfl | assumption | (rw [Tr.get_set, if_pos (by omega)]; done) | (rw [Tr.get_set, if_pos (by omega)]; rfl)⟩, ?_⟩
              · show (4 - IntKind.i64.wrap (s + 1)).toNat < (4 - s).toNat; rw [hw1]; omega
      · have p4 := g4; try simp only [d1, d2, d3, d4, d5, d6, d7, d8, d9] at p4
        refine k_exit ?_
        refine e_seq_exit ?_
        refine e_loop_exit ?_
        refine e_block_eq ?_
        refine e_seq ?_
        refine k_seq ?_
        refine k_region hP hC ?_
        refine o_call0 (wA_none rfl) rfl rfl rfl (by simp only [evs, ev_tmp, Tr.get_set, reduceIte, Nat.reduceEqDiff, Nat.reduceAdd, he11_9, he11_13, he11_14, he11_25, he11_26, g4] <;> rfl) (by decide) ?_
        refine ⟨_, _, ((tab_miss (by decide)).trans ((tab_miss (by decide)).trans ((tab_miss (by decide)).trans ((tab_miss (by decide)).trans ((tab_miss (by decide)).trans ((tab_miss (by decide)).trans ((tab_miss (by decide)).trans ((tab_miss (by decide)).trans (tab_hit.trans lives_c))))))))), ?_⟩
        refine os (x_assign rfl za) ?_
        refine o_done ?_
        refine e_seq ?_
        refine k_ret ?_
        exact gives_mk2 (L := [0]) (w := 1) (.inr rfl) gcOk_one (by simp only [Try.results7, resA, Tr.get_set, reduceIte, Nat.reduceEqDiff, Nat.reduceAdd, he11_9, he11_13, he11_14, he11_25, he11_26, g4] <;> rfl) (by rfl) (gcH_cons (gcO_old (by simp only [Bool.and_eq_true, Nat.blt_eq]; exact ⟨Nat.one_pos, by show 0 < _; omega⟩) (by (repeat (first | rw [Tr.get_set, if_neg (by omega)] | rw [hx11 _ (by omega)] | rw [hxS10 _ (by omega)] | rw [hx9 _ (by omega)] | rw [hx8 _ (by omega)] | rw [hx7 _ (by omega)] | rw [hx6 _ (by omega)] | rw [hx5 _ (by omega)] | rw [hxS4 _ (by omega)] | rw [hx3 _ (by omega)] | rw [hx2 _ (by omega)] | rw [hx1 _ (by omega)])) <;> first | rfl | assumption | (rw [Tr.get_set, if_pos (by omega)]; done) | (rw [Tr.get_set, if_pos (by omega)]; rfl))) gcH_nil) (Nat.ble_eq_true_of_le (by first | omega | (dsimp only; omega)))

theorem con_sure : Con Try.prog 7 c_sure := con_flat Try.func7 rfl fun us cs v new h => by
  unfold spec_sure at h
  split at h
  case h_2 => cases h
  rename_i s_l bits more turn c_l
  split at h
  case isFalse => cases h
  rename_i hc
  try simp only [Bool.and_eq_true] at hc
  obtain ⟨⟨q_l, r_l⟩, hok⟩ := hc
  cases h
  have e_l := ints_unints r_l
  have hs_l := slOk_sl (n := (unints c_l).length) q_l (by decide) (by rw [← ints_len, e_l, Nat.mul_one])
  have key := sure_m hs_l hok
  have hrows : [ints (unints c_l)] = [c_l] := by rw [e_l]
  rw [← hrows]
  exact key
theorem sure_c {H : AH} {s_l : Value} {l : List Int} {bits : Int} {more : Int} {turn : Int} (hr_l : Rd H 1 s_l l.length (ints l)) (hok : ok_sure l bits more turn = true) : c_sure [s_l, .int .i64 bits, .int .i64 more, .int .i64 turn] H = some (.bool true, H) := by
  obtain ⟨u_l, a_l, b_l⟩ := hr_l 0
  exact flatC_at (v := val_sure l bits more turn) (new := new_sure l bits more turn) (cl_sl a_l (cl_fr rfl (cl_fr rfl (cl_fr rfl cl_nil)))) (by simp only [spec_sure, sl_slOk b_l (by rw [ints_len, Nat.mul_one]), isInts_ints, unints_ints, hok, Bool.and_self, if_true]) (rfl) (gcV_free rfl)

end Go.Proofs.Ytohhcnehcjpekaa
