/-
  The smaller words of a word.
-/
import Derived.Test.YtmladpbadglecaaGreatDoorHWu
set_option linter.unusedSimpArgs false
set_option linter.unusedVariables false
namespace Go.Proofs.YtmladpbadglecaaGreatDoor
open Go.AM
set_option maxRecDepth 100000
set_option maxHeartbeats 1000000
open Go.Sort
set_option maxHeartbeats 16000000
structure QS (t : Tr AObj) (nx nx' : Nat) (S : Nat -> Prop) (v : Value) (L : List Wd) : Prop where
 acc : AccC t nx nx' S v (L.map (·.1))
 wd : ∀ x ∈ L, IV t (fun i => nx <= i /\ i < nx' /\ ¬ S i) x.1 x.2 /\ x.2.length <= 1000
 nil : L = [] -> v = .slice none 0 0
theorem QS.keep {t t' : Tr AObj} {nx n n' : Nat} {S : Nat -> Prop} {v : Value} {L : List Wd} (h : QS t nx n S v L) (hn : n <= n') (hk : ∀ i, i < n -> t'.get i = t.get i) : QS t' nx n' S v L :=
 ⟨h.acc.keep hn fun x q => hk x (h.acc.bnd x q).2, fun x hx => ⟨((h.wd x hx).1.keep fun i q => hk i q.2.1).mono fun i q => ⟨q.1, Nat.lt_of_lt_of_le q.2.1 hn, q.2.2⟩, (h.wd x hx).2⟩, h.nil⟩
theorem QS.app {tA t' : Tr AObj} {nx nxA n n' : Nat} {S S' : Nat -> Prop} {v v' vv : Value} {c : List Int} {L : List Wd} (h : QS tA nx nxA S v L) (hn : nxA <= n) (hn' : n <= n') (hnx : nx <= nxA) (hk : ∀ i, i < nxA -> ¬ S i -> t'.get i = tA.get i) (hw : IV t' (fun i => nxA <= i /\ i < n) vv c) (hc : c.length <= 1000) (hacc : AccC t' nx n' S' v' (L.map (·.1) ++ [vv])) (hsub : ∀ x, S' x -> S x \/ x = n) : QS t' nx n' S' v' (L ++ [(vv, c)]) := by
 have hS : ∀ i, i < n -> S' i -> S i := fun i h1 h2 => (hsub i h2).elim id fun q => by omega
 refine ⟨by rw [List.map_append]; exact hacc, fun x hx => ?_, fun h => by simp at h⟩
 rcases List.mem_append.1 hx with hx | hx
 ·refine ⟨((h.wd x hx).1.keep fun i q => hk i q.2.1 q.2.2).mono fun i q => ⟨q.1, by omega, fun p => q.2.2 (hS i ow p)⟩, (h.wd x hx).2⟩
 ·rw [List.mem_singleton.1 hx]
  refine ⟨hw.mono fun i q => ⟨by omega, by omega, fun p => ?_⟩, hc⟩
  have := h.acc.bnd i (hS i q.2 p)
  omega
def c1W (tw : List Int) (i : Int) : List Int := trim (tw.take i.toNat ++ tw.drop (i + 1).toNat)
def kW (tw : List Int) (i j : Int) : Int := if j = 0 then 0 else ith tw i - 1
def C2 (tw : List Int) (i j : Int) : List (List Int) := cands tw i.toNat ++ [c1W tw i] ++ (if 0 < ith tw i then [trim (tw.set i.toNat 0), trim (tw.set i.toNat (ith tw i - 1))].take j.toNat else [])
section
variable {tw : List Int} {i j : Int}
theorem C2_0 : C2 tw i 0 = cands tw i.toNat ++ [c1W tw i] := by
 unfold C2
 rw [Int.toNat_zero, List.take_zero]
 split <;> rw [List.append_nil]
theorem C2_yes (h : 0 < ith tw i) (h0 : 0 <= j) (h1 : j < 2) : C2 tw i (j + 1) = C2 tw i j ++ [trim (tw.set i.toNat (kW tw i j))] := by
 unfold C2 kW
 rw [if_pos h, if_pos h]
 rcases (show j = 0 \/ j = 1 by omega) with rfl | rfl
 ·rw [if_pos rfl]
  simp
 ·simp only [List.append_assoc]
  rfl
theorem C2_no (h : ¬ 0 < ith tw i) : C2 tw i (j + 1) = C2 tw i j := by
 unfold C2
 rw [if_neg h, if_neg h]
theorem C2_2 (h0 : 0 <= i) : C2 tw i 2 = cands tw (i + 1).toNat := by
 unfold C2 c1W
 by_cases h : 0 < ith tw i
 ·rw [if_pos h, cands_yes h0 h]
  simp only [List.append_assoc]
  rfl
 ·rw [if_neg h, cands_no h0 h, List.append_nil]
theorem set_cat {k : Int} (h0 : 0 <= i) (h1 : i < tw.length) : tw.take i.toNat ++ (k :: tw.drop (i + 1).toNat) = tw.set i.toNat k := by
 rw [List.set_eq_take_append_cons_drop, if_pos ow, show (i + 1).toNat = i.toNat + 1 by omega]
theorem C2_len (h0 : 0 <= i) : (C2 tw i j).length <= 3 * i.toNat + 3 := by
 have := cands_len (T := tw) (n := i.toNat)
 unfold C2
 rw [List.length_append, List.length_append, List.length_singleton]
 split
 ·rw [List.length_take]
  simp only [List.length_cons, List.length_nil]
  omega
 ·simp only [List.length_nil]
  omega
end
theorem sorted_words {P P' : Array Wd} {C : List (List Int)} (hp : PermIn 0 P.size P P') (hs : SortedIn ltW 0 P.size P') (hC : P.toList.map (·.2) = C) (ht : ∀ y ∈ C, trim y = y) : Strict ((cmpP P' P'.size).map (·.2)) /\ (∀ y, y ∈ (cmpP P' P'.size).map (·.2) ↔ y ∈ C) /\ ∀ x ∈ cmpP P' P'.size, x ∈ P.toList := by
 have hsz : P'.size = P.size := hp.1
 have hperm : P'.toList.Perm P.toList := by
  have h := hp.2.2
  rw [<-hsz, Array.extract_size, hsz, Array.extract_size] at h
  exact h
 have hmem : ∀ i, i < P'.size -> P'[i]! ∈ P'.toList := fun i h => mem_at h
 have hin : ∀ i, i < P'.size -> (P'[i]!).2 ∈ C := fun i h => by
  rw [<-hC]
  exact List.mem_map.2 ⟨_, hperm.mem_iff.1 (hmem i h), rfl⟩
 refine ⟨cmp_strict (by rw [hsz]; exact hs) (fun i h => ht _ (hin i h)) (Nat.le_refl _), fun y => ?_, ?_⟩
 ·rw [cmp_mem (Nat.le_refl _)]
  constructor
  ·rintro ⟨i, h, rfl⟩
   exact hin i h
  ·intro h
   rw [<-hC] at h
   obtain ⟨x, hx, rfl⟩ := List.mem_map.1 h
   obtain ⟨i, hi, e⟩ := Array.getElem_of_mem (Array.mem_toList_iff.1 (hperm.mem_iff.2 hx))
   exact ⟨i, hi, by rw [getElem!_pos P' i hi, e]⟩
 ·have key : ∀ n, n <= P'.size -> ∀ x ∈ cmpP P' n, x ∈ P'.toList := by
   intro n
   induction n with
   | zero => intro _ x h; cases h
   | succ n ih =>
    intro hn x h
    unfold cmpP at h
    split at h
    ·rcases List.mem_append.1 h with h | h
     ·exact ih ow x h
     ·rw [List.mem_singleton.1 h]
      exact hmem n ow
    ·exact ih ow x h
  exact fun x h => hperm.mem_iff.1 (key _ (Nat.le_refl _) x h)
theorem bud36 {n a : Nat} (h : n <= 36) : a + (800000 * n + 400000) <= a + 30000000 := by omega
theorem cmpP_len {P : Array Wd} : ∀ n, (cmpP P n).length <= n
 | 0 => Nat.le_refl _
 | n + 1 => by
  have := cmpP_len (P := P) n
  unfold cmpP
  split
  ·rw [List.length_append, List.length_singleton]; omega
  ·omega
theorem cmpf_i {t : Tr AObj} {K : Nat -> Prop} {r id n nx wr : Nat} {P : Array Wd} (hd : DS t K r id P) (e0 : n = P.size) (hK : ∀ i, K i -> i < nx /\ i ≠ r) (hr : r < nx) (hid : id < nx) (hz : P.size <= 40) (hN : nx <= BIG) (hwr : wr <= BIG) : ∃ v h', c_cmpf [.slice (some ⟨id, 0, none⟩) n (n + 1), EQV] ⟨t, nx, wr⟩ = some (v, h') /\ ∃ t' wr', h' = ⟨t', nx, wr'⟩ /\ CV t' (fun i => i = id \/ i = r) v ((cmpP P P.size).map (·.1)) /\ FrX t nx wr t' nx wr' r 0 := by
 subst e0
 exact cmpf_c hd hK hr hid hz hN hwr
def R_sm : List Value -> AH -> Value -> AH -> Prop := fun args h v h' => ∀ K s (l : List Int), args = [s] -> IV h.t K s l -> ∃ t' nx' wr', ∃ L : List Wd, h' = ⟨t', nx', wr'⟩ /\ Fr h.t h.next h.wr t' nx' wr' 40000000 /\ LW t' (fun x => h.next <= x /\ x < nx') v L /\ Strict (L.map (·.2)) /\ (∀ y, y ∈ L.map (·.2) ↔ y ∈ cands (trim l) (trim l).length) /\ L.length <= 36
noncomputable def c_sm := cEx Tryz.prog 9 R_sm
theorem con_sm : Con Tryz.prog 9 c_sm := con_ex Tryz.func9 rfl
theorem sm_c {t : Tr AObj} {K : Nat -> Prop} {nx wr : Nat} {s : Value} {l : List Int} (hs : IV t K s l) (hK : ∀ i, K i -> i < nx) (hl : l.length <= 12) (hel : ∀ x ∈ l, inR x) (hN : nx + 100000000 <= BIG) (hwr : wr <= BIG) : ∃ v h', c_sm [s] ⟨t, nx, wr⟩ = some (v, h') /\ ∃ t' nx' wr', ∃ L : List Wd, h' = ⟨t', nx', wr'⟩ /\ Fr t nx wr t' nx' wr' 40000000 /\ LW t' (fun x => nx <= x /\ x < nx') v L /\ Strict (L.map (·.2)) /\ (∀ y, y ∈ L.map (·.2) ↔ y ∈ cands (trim l) (trim l).length) /\ L.length <= 36 := by
 have hP := Fits
 have hC : CallSound Tryz.prog (tabOf [(13, c_trim), (16, c_cat), (17, c_sort), (19, c_cmpf)]) := tab_sound (tab_cons con_trim (tab_cons con_cat (tab_cons con_sort (tab_cons con_cmpf tab_end))))
 suffices key : SureK Tryz.prog ⟨t, nx, wr⟩ _ [] _ (EndR Tryz.prog _ (R_sm [s] ⟨t, nx, wr⟩)) by
  obtain ⟨v, h', q, x⟩ := sure_start (R := R_sm) (sz := 61) Tryz.func9 rfl rfl zo key
  exact ⟨v, h', q, x K s l rfl hs⟩
 refine s_seq (s_region hP hC (oA ?_))
 refine o_done (se_seq (s_seq (s_region hP hC (oM ?_))))
 refine o_callR (tab_hitR (trim_c hs hK ow ow hwr)) (wA_none rfl) rfl rfl rfl zv zd (fun v1 h1 hR1 => ?_)
 obtain ⟨t1, n1, w1, rfl, hF1, hI1⟩ := hR1
 have la1 := hF1.le
 have lb1 := hF1.hi
 have lc1 := hF1.wlo
 have ld1 := hF1.whi
 obtain ⟨tw, hT⟩ : ∃ y, y = trim l := ⟨_, rfl⟩
 have hTT : trim tw = tw := by rw [hT, trim_trim]
 have hTl : tw.length <= 12 := by rw [hT]; have := trim_le l; omega
 rw [<-hT] at hI1
 have heT : ∀ x ∈ tw, inR x := by rw [hT]; exact fun x hx => hel x (List.mem_of_mem_take hx)
 refine oA ?_
 refine o_done (se_seq (s_seq (s_region hP hC (oA ?_))))
 refine o_done (se_seq (s_seq (s_seq (s_region hP hC (oM ?_)))))
 refine os (x_lenI hI1 rfl rfl zv rfl u22) ?_
 refine os (x_move rfl (by rfl)) ?_
 refine o_done (se_seq (s_block ?_))
 refine s_loop (α := Int) (fun i s' => ∃ e tA nxA wqA vO L S, s' = ⟨e, 61, ⟨tA, nxA, wqA⟩⟩ /\ e.get 0 = some (v1) /\ e.get 3 = some (vO) /\ e.get 10 = some (v1) /\ e.get 11 = some (.int .i64 (tw.length : Nat)) /\ e.get 12 = some (.int .i64 (i)) /\ 0 <= i /\ i <= tw.length /\ QS tA n1 nxA S vO L /\ L.map (·.2) = cands tw i.toNat /\ Fr t1 n1 w1 tA nxA wqA (1000 * i.toNat)) (fun i => (tw.length + 5 - i).toNat) 0 ⟨_, _, _, _, _, [], _, rfl, hg, hg, hg, hg, hg, by omega, by omega, ⟨.start, fun x hx => (by cases hx), fun _ => rfl⟩, rfl, Fr.refl⟩ ?_
 rintro i s' ⟨e, tA, nxA, wqA, vO, L, S, rfl, heA0, heA3, heA10, heA11, heA12, i0, i1, hQA, hMA, hGA⟩
 have gaA := hGA.le
 have gbA := hGA.hi
 have gcA := hGA.wlo
 have gdA := hGA.whi
 have hIA := hI1.keep (t' := tA) (fun i q => hGA.same i q.2)
 refine s_seq (s_region hP hC ?_)
 refine os (x_bin rfl za za b_lss) ?_
 refine o_done (se_seq (s_seq ?_))
 refine s_cond za (fun g2 => ?_) (fun g2 => ?_)
 ·have p2 := g2; try simp only [dd] at p2
  refine s_skip (se_seq (s_seq (s_block (s_seq (s_region hP hC (oM ?_))))))
  obtain ⟨id1, of1, c1, hv1, hl1⟩ := hIA.elem (i := i) ow ow
  refine os (x_indexE hv1 rfl za za u22 T.s3 ow ow) ?_
  refine os (x_load1 rfl za T.g3 (hl1 _ _ _ (fun _ _ => rfl))) ?_
  refine oA ?_
  refine oA ?_
  refine o_done (se_seq (s_seq ?_))
  refine s_join (fun s' => ∃ e tB nxB wqB vB L2 S2, s' = ⟨e, 61, ⟨tB, nxB, wqB⟩⟩ /\ e.get 0 = some (v1) /\ e.get 3 = some (vB) /\ e.get 4 = some (.int .i64 (i)) /\ e.get 5 = some (.int .i64 (ith tw i)) /\ e.get 10 = some (v1) /\ e.get 11 = some (.int .i64 (tw.length : Nat)) /\ e.get 12 = some (.int .i64 (i)) /\ QS tB n1 nxB S2 vB L2 /\ L2.map (·.2) = C2 tw i 0 /\ L2 ≠ [] /\ Fr t1 n1 w1 tB nxB wqB (1000 * i.toNat + 20)) ?_ ?_
  ·skip
   obtain ⟨wA, iA, hsA⟩ := x_sliceW (P := Tryz.prog) (T := 22) (lo := none) (hi := some (.tmp 19)) (i := 0) (j := i) hIA u22 T.s3 ow i0 ow (fun _ => rfl) (fun q => by cases q)
   obtain ⟨wB, iB, hsB⟩ := x_sliceW (P := Tryz.prog) (T := 22) (lo := some (.tmp 23)) (hi := none) (i := i + 1) (j := (tw.length : Nat)) hIA u22 T.s3 ow ow ow (fun q => by cases q) (fun _ => rfl)
   have eA : (tw.drop (0 : Int).toNat).take (i.toNat - (0 : Int).toNat) = tw.take i.toNat := by rw [Int.toNat_zero, List.drop_zero, Nat.sub_zero]
   have eB : (tw.drop (i + 1).toNat).take (((tw.length : Nat) : Int).toNat - (i + 1).toNat) = tw.drop (i + 1).toNat := by rw [Int.toNat_natCast, List.take_of_length_le (by rw [List.length_drop]; omega)]
   rw [eA] at iA
   rw [eB] at iB
   have zA : (tw.take i.toNat).length <= 12 := by rw [List.length_take]; omega
   have zB : (tw.drop (i + 1).toNat).length <= 12 := by rw [List.length_drop]; omega
   obtain ⟨aA, cA, rfl⟩ := iA.len
   obtain ⟨aB, cB, rfl⟩ := iB.len
   refine s_draw hP hC zr ?_
   refine dM ?_
   refine dM ?_
   refine dM ?_
   refine ds (hsA (fun _ _ => rfl) rfl za (fun a q => by cases q) (fun a q => by cases q; exact za)) ?_
   refine dM ?_
   refine dM ?_
   refine ds (x_bin (u := .int .i64 (i + 1)) rfl za (by rfl) (by rw [b_add, IntWalk.i64_in _ ow])) ?_
   refine ds (hsB (fun _ _ => rfl) rfl za (fun a q => by cases q; exact za) (fun a q => by cases q)) ?_
   refine ds (y_bsliceN (cs := [(.slice aA (tw.take i.toNat).length cA), (.slice aB (tw.drop (i + 1).toNat).length cB)]) rfl (by simp only [evP, ev_tmp, Tr.get_set, reduceIte, Nat.reduceEqDiff, Nat.reduceAdd, heA0, heA3, heA10, heA11, heA12, g2] <;> rfl) u38 T.s22 T.z22 zd zd rfl rfl (by rfl)) ?_
   have hkA : ∀ x, nx <= x /\ x < n1 -> (tA.set nxA (.row [(.slice aA (tw.take i.toNat).length cA), (.slice aB (tw.drop (i + 1).toNat).length cB)] nxA BIG false 2)).get x = tA.get x := fun x q => by rw [gn ow]
   have hc2 : CV (tA.set nxA (.row [(.slice aA (tw.take i.toNat).length cA), (.slice aB (tw.drop (i + 1).toNat).length cB)] nxA BIG false 2)) (fun x => nx <= x /\ x < nxA + 1) (.slice (some ⟨nxA, 0, none⟩) 2 2) ((([((.slice aA (tw.take i.toNat).length cA), tw.take i.toNat), ((.slice aB (tw.drop (i + 1).toNat).length cB), tw.drop (i + 1).toNat)] : List Wd)).map (·.1)) := cv_row (K := fun x => nx <= x /\ x < nxA + 1) (id := nxA) ⟨by omega, by omega⟩ (.inl rfl) (by rw [gp rfl]; rfl) rfl
   have hw2 : ∀ x ∈ ([((.slice aA (tw.take i.toNat).length cA), tw.take i.toNat), ((.slice aB (tw.drop (i + 1).toNat).length cB), tw.drop (i + 1).toNat)] : List Wd), IV (tA.set nxA (.row [(.slice aA (tw.take i.toNat).length cA), (.slice aB (tw.drop (i + 1).toNat).length cB)] nxA BIG false 2)) (fun x => nx <= x /\ x < nxA + 1) x.1 x.2 := fun x hx => by
    simp only [List.mem_cons, List.not_mem_nil, or_false] at hx
    rcases hx with rfl | rfl
    ·exact (iA.keep hkA).mono fun x q => by omega
    ·exact (iB.keep hkA).mono fun x q => by omega
   have hf2 : flW ([((.slice aA (tw.take i.toNat).length cA), tw.take i.toNat), ((.slice aB (tw.drop (i + 1).toNat).length cB), tw.drop (i + 1).toNat)] : List Wd) = tw.take i.toNat ++ tw.drop (i + 1).toNat := by simp [flW]
   have zf2 : (flW ([((.slice aA (tw.take i.toNat).length cA), tw.take i.toNat), ((.slice aB (tw.drop (i + 1).toNat).length cB), tw.drop (i + 1).toNat)] : List Wd)).length <= 24 := by rw [hf2, List.length_append]; omega
   refine d_callR (tab_missR zd (tab_hitR (cat_c (nx := nxA + 1) hc2 hw2 (fun x q => q.2) (by show 2 <= 1000; decide) ow ow (Nat.le_refl _)))) (wA_none rfl) rfl rfl rfl (by simp only [evs, ev_tmp, Tr.get_set, reduceIte, Nat.reduceEqDiff, Nat.reduceAdd, heA0, heA3, heA10, heA11, heA12, g2] <;> rfl) zd (fun v2 t2 n2 w2 hR2 => ?_)
   obtain ⟨tq2, nq2, wq2, he2, hF2, hI2⟩ := hR2
   cases he2
   have la2 := hF2.le
   have lb2 := hF2.hi
   have lc2 := hF2.wlo
   have ld2 := hF2.whi
   rw [hf2] at hI2
   rw [hf2] at zf2
   refine d_callR (tab_hitR (trim_c (nx := n2) hI2 (fun x q => q.2) ow ow (Nat.le_refl _))) (wA_none rfl) rfl rfl rfl (by simp only [evs, ev_tmp, Tr.get_set, reduceIte, Nat.reduceEqDiff, Nat.reduceAdd, heA0, heA3, heA10, heA11, heA12, g2] <;> rfl) zd (fun v3 t3 n3 w3 hR3 => ?_)
   obtain ⟨tq3, nq3, wq3, he3, hF3, hI3⟩ := hR3
   cases he3
   have la3 := hF3.le
   have lb3 := hF3.hi
   have lc3 := hF3.wlo
   have ld3 := hF3.whi
   have hz3 : (c1W tw i).length <= 24 := by unfold c1W; have := trim_le (tw.take i.toNat ++ tw.drop (i + 1).toNat); omega
   have hI3 : IV t3 _ v3 (c1W tw i) := hI3
   obtain ⟨a3, c3, e3⟩ := hI3.len
   subst e3
   refine ds (y_bsliceV rfl za rfl u38 T.s22 T.z22 rfl rfl) ?_
   have fr3 : ∀ x, x < nxA -> (t3.set n3 (.row [(.slice a3 (c1W tw i).length c3)] n3 BIG false 1)).get x = tA.get x := fun x q => by
    rw [gn ow]
    exact (hF3.same x ow).trans ((hF2.same x ow).trans (by rw [gn ow]))
   have hlL : (L.map (·.1)).length <= 36 := by rw [List.length_map, <-List.length_map (f := fun x : Wd => x.2), hMA]; have := cands_len (T := tw) (n := i.toNat); omega
   refine d_appC hQA.acc (cells_cv (show CV (t3.set n3 (.row [(.slice a3 (c1W tw i).length c3)] n3 BIG false 1)) (fun x => x = n3) (.slice (some ⟨n3, 0, none⟩) 1 1) [(.slice a3 (c1W tw i).length c3)] from cv_row (K := fun x => x = n3) rfl (.inl rfl) (by rw [gp rfl]; rfl) rfl) u38 T.s22) (wA_none rfl) rfl rfl rfl (by simp only [evs, ev_tmp, Tr.get_set, reduceIte, Nat.reduceEqDiff, Nat.reduceAdd, heA0, heA3, heA10, heA11, heA12, g2] <;> rfl) rfl rfl zr u38 T.i38 zd zd rfl ow (fun x hx => fr3 x (hQA.acc.bnd x hx).2) ow (by show _ + 1 <= 1000000; omega) (fun v4 t4 n4 w4 S4 hA4 => ?_)
   have la4 := hA4.le
   have lb4 := hA4.hi
   have lc4 := hA4.wlo
   have ld4 := hA4.whi
   have ac4 := hA4.acc
   have fr4 : ∀ x, x < nxA -> ¬ S x -> t4.get x = tA.get x := fun x q h => (hA4.same x h ow).trans (fr3 x q)
   have nS4 : ∀ x, nxA <= x -> ¬ S x := fun x q h => by have := hQA.acc.bnd x h; omega
   have hw4 : IV t4 (fun i => nxA <= i /\ i < n3 + 1) _ (c1W tw i) := (hI3.keep (t' := t4) (fun x q => (hA4.same x (nS4 x ow) ow).trans (by rw [gn ow]))).mono (fun x q => by omega)
   have hQ4 := QS.app hQA ow ow ow fr4 hw4 ow ac4 hA4.sub
   refine ds (x_assign rfl za) ?_
   refine d_done ⟨de_ok (tail_my (B := 0) (Y := none) (M := [0, 0, 0, 1, 0, 0, 0, 1, 1, 1, 1, 1, 2, 0]) (fw := 0) (my_op (my_w (my_q (my_q (my_q (my_q (my_q (my_op (my_op (my_op (my_q (my_op (my_op (my_op my_nil ow) ow) ow) ow) ow) ow) ow) ow) ow) ow) ow) ow) (Nat.zero_le _) (fun y q => by cases q)) ow) zd zr) (by try dsimp only; omega) (by try dsimp only; omega), ?_⟩
   refine se_loop ?_
   exact ⟨_, _, _, _, _, _, _, rfl, za, za, za, za, za, za, za, hQ4, by rw [List.map_append, hMA, C2_0]; rfl, by simp, ⟨ozz, ozz, zwl, zwh, fun x (q : x < n1) => (fr4 x ow (fun h => by have := hQA.acc.bnd x h; omega)).trans (hGA.same x q)⟩⟩
  ·skip
   rintro s' ⟨e, tB, nxB, wqB, vB, L2, S2, rfl, heB0, heB3, heB4, heB5, heB10, heB11, heB12, hQB, hMB, hNB, hGB⟩
   clear hQA hMA hIA
   have gaB := hGB.le
   have gbB := hGB.hi
   have gcB := hGB.wlo
   have gdB := hGB.whi
   have hIB := hI1.keep (t' := tB) (fun i q => hGB.same i q.2)
   refine s_seq (s_region hP hC (oM ?_))
   refine os (x_bin (u := .int .i64 (IntKind.i64.wrap (ith tw i - 1))) rfl za (by rfl) b_sub) ?_
   refine os (y_bsliceN (cs := ints [0, (IntKind.i64.wrap (ith tw i - 1))]) rfl (by simp only [evP, ev_tmp, Tr.get_set, reduceIte, Nat.reduceEqDiff, Nat.reduceAdd, heB0, heB3, heB4, heB5, heB10, heB11, heB12] <;> rfl) u22 T.s3 T.z3 zd zd rfl rfl (by rfl)) ?_
   refine os (x_len rfl rfl (by simp only [evs, ev_tmp, Tr.get_set, reduceIte, Nat.reduceEqDiff, Nat.reduceAdd, heB0, heB3, heB4, heB5, heB10, heB11, heB12] <;> rfl) rfl u22) ?_
   refine os (x_move rfl (by rfl)) ?_
   refine o_done (se_seq (s_block ?_))
   have hRow : (tB.set nxB (.row (ints [0, (IntKind.i64.wrap (ith tw i - 1))]) nxB BIG false 2)).get nxB = some (.row (ints [0, (IntKind.i64.wrap (ith tw i - 1))]) nxB BIG false 2) := by rw [gp rfl]
   refine s_loop (α := Int) (fun j s' => ∃ e tC nxC wqC vC L3 S3, s' = ⟨e, 61, ⟨tC, nxC, wqC⟩⟩ /\ e.get 0 = some (v1) /\ e.get 3 = some (vC) /\ e.get 4 = some (.int .i64 (i)) /\ e.get 5 = some (.int .i64 (ith tw i)) /\ e.get 10 = some (v1) /\ e.get 11 = some (.int .i64 (tw.length : Nat)) /\ e.get 12 = some (.int .i64 (i)) /\ e.get 32 = some (.slice (some ⟨nxB, 0, none⟩) 2 2) /\ e.get 33 = some (.int .i64 2) /\ e.get 34 = some (.int .i64 (j)) /\ 0 <= j /\ j <= 2 /\ QS tC n1 nxC S3 vC L3 /\ L3.map (·.2) = C2 tw i j /\ L3 ≠ [] /\ ¬ S3 nxB /\ nxB < nxC /\ tC.get nxB = some (.row (ints [0, (IntKind.i64.wrap (ith tw i - 1))]) nxB BIG false 2) /\ Fr t1 n1 w1 tC nxC wqC (1000 * i.toNat + 30 + 20 * j.toNat)) (fun j => (5 - j).toNat) 0 ⟨_, _, _, _, _, _, _, rfl, za, za, za, za, za, za, za, za, za, za, by omega, by omega, hQB.keep (Nat.le_succ _) (fun x q => by rw [gn ow]), hMB, hNB, fun h => by have := hQB.acc.bnd nxB h; omega, Nat.lt_succ_self _, hRow, ⟨by omega, by omega, by omega, by omega, fun x q => by rw [gn ow]; exact hGB.same x q⟩⟩ ?_
   clear hQB hMB hNB hIB gaB gcB gdB hRow hGB
   rintro j s' ⟨e, tC, nxC, wqC, vC, L3, S3, rfl, heC0, heC3, heC4, heC5, heC10, heC11, heC12, heC32, heC33, heC34, j0, j1, hQC, hMC, hNC, hSC, hnC, hrC, hGC⟩
   have gaC := hGC.le
   have gbC := hGC.hi
   have gcC := hGC.wlo
   have gdC := hGC.whi
   have hIC := hI1.keep (t' := tC) (fun i q => hGC.same i q.2)
   refine s_seq (s_region hP hC ?_)
   refine os (x_bin rfl za za b_lss) ?_
   refine o_done (se_seq (s_seq ?_))
   refine s_cond za (fun g4 => ?_) (fun g4 => ?_)
   ·have p4 := g4; try simp only [dd] at p4
    refine s_skip (se_seq (s_seq (s_block (s_seq (s_region hP hC ?_)))))
    refine os (x_index rfl za za u22 T.s3 ow (by show _ < ((2 : Nat) : Int); omega)) ?_
    refine os (x_load1 rfl za T.g3 (l_ints (l := [0, (IntKind.i64.wrap (ith tw i - 1))]) (whole_row hrC rfl) ow (by show _ < (2 : Int); omega))) ?_
    refine oA ?_
    refine o_done (se_seq (s_seq (s_region hP hC (oM ?_))))
    refine os (x_bin rfl za (by rfl) b_gtr) ?_
    refine o_done (se_seq ?_)
    refine s_cond za (fun g6 => ?_) (fun g6 => ?_)
    ·have p6 := g6; try simp only [dd] at p6
     refine s_draw hP hC zr ?_
     refine dM ?_
     refine dM ?_
     refine dM ?_
     obtain ⟨wA, iA, hsA⟩ := x_sliceW (P := Tryz.prog) (T := 22) (lo := none) (hi := some (.tmp 42)) (i := 0) (j := i) hIC u22 T.s3 ow i0 ow (fun _ => rfl) (fun q => by cases q)
     obtain ⟨wB, iB, hsB⟩ := x_sliceW (P := Tryz.prog) (T := 22) (lo := some (.tmp 48)) (hi := none) (i := i + 1) (j := (tw.length : Nat)) hIC u22 T.s3 ow ow ow (fun q => by cases q) (fun _ => rfl)
     have eA : (tw.drop (0 : Int).toNat).take (i.toNat - (0 : Int).toNat) = tw.take i.toNat := by rw [Int.toNat_zero, List.drop_zero, Nat.sub_zero]
     have eB : (tw.drop (i + 1).toNat).take (((tw.length : Nat) : Int).toNat - (i + 1).toNat) = tw.drop (i + 1).toNat := by rw [Int.toNat_natCast, List.take_of_length_le (by rw [List.length_drop]; omega)]
     rw [eA] at iA
     rw [eB] at iB
     have zA : (tw.take i.toNat).length <= 12 := by rw [List.length_take]; omega
     have zB : (tw.drop (i + 1).toNat).length <= 12 := by rw [List.length_drop]; omega
     obtain ⟨aA, cA, rfl⟩ := iA.len
     obtain ⟨aB, cB, rfl⟩ := iB.len
     have hRi := heT (ith tw i) (by rw [ith_eq i0 ow]; exact List.getElem_mem _)
     unfold inR at hRi
     have hkv : ith [0, (IntKind.i64.wrap (ith tw i - 1))] j = kW tw i j := by
      unfold kW
      rcases (show j = 0 \/ j = 1 by omega) with rfl | rfl
      ·rfl
      ·rw [IntWalk.i64_in _ ow]
       rfl
     refine ds (hsA (fun _ _ => rfl) rfl za (fun a q => by cases q) (fun a q => by cases q; exact za)) ?_
     refine dM ?_
     refine ds (y_bsliceV rfl za rfl u22 T.s3 T.z3 rfl rfl) ?_
     refine dM ?_
     refine dM ?_
     refine ds (x_bin (u := .int .i64 (i + 1)) rfl za (by rfl) (by rw [b_add, IntWalk.i64_in _ ow])) ?_
     have hkC : ∀ x, nx <= x /\ x < n1 -> (tC.set nxC (.row [.int .i64 (ith [0, (IntKind.i64.wrap (ith tw i - 1))] j)] nxC BIG false 1)).get x = tC.get x := fun x q => by rw [gn ow]
     refine ds (hsB hkC rfl za (fun a q => by cases q; exact za) (fun a q => by cases q)) ?_
     refine ds (y_bsliceN (cs := [(.slice aA (tw.take i.toNat).length cA), (.slice (some ⟨nxC, 0, none⟩) 1 1), (.slice aB (tw.drop (i + 1).toNat).length cB)]) rfl (by simp only [evP, ev_tmp, Tr.get_set, reduceIte, Nat.reduceEqDiff, Nat.reduceAdd, heC0, heC3, heC4, heC5, heC10, heC11, heC12, heC32, heC33, heC34, g4, g6] <;> rfl) u38 T.s22 T.z22 zd zd rfl rfl (by rfl)) ?_
     have hkC2 : ∀ x, x < nxC -> ((tC.set nxC (.row [.int .i64 (ith [0, (IntKind.i64.wrap (ith tw i - 1))] j)] nxC BIG false 1)).set (nxC + 1) (.row [(.slice aA (tw.take i.toNat).length cA), (.slice (some ⟨nxC, 0, none⟩) 1 1), (.slice aB (tw.drop (i + 1).toNat).length cB)] (nxC + 1) BIG false 3)).get x = tC.get x := fun x q => by rw [gn ow, gn ow]
     have hc2 : CV ((tC.set nxC (.row [.int .i64 (ith [0, (IntKind.i64.wrap (ith tw i - 1))] j)] nxC BIG false 1)).set (nxC + 1) (.row [(.slice aA (tw.take i.toNat).length cA), (.slice (some ⟨nxC, 0, none⟩) 1 1), (.slice aB (tw.drop (i + 1).toNat).length cB)] (nxC + 1) BIG false 3)) (fun x => nx <= x /\ x < nxC + 2) (.slice (some ⟨nxC + 1, 0, none⟩) 3 3) (([((.slice aA (tw.take i.toNat).length cA), tw.take i.toNat), ((.slice (some ⟨nxC, 0, none⟩) 1 1), [(ith [0, (IntKind.i64.wrap (ith tw i - 1))] j)]), ((.slice aB (tw.drop (i + 1).toNat).length cB), tw.drop (i + 1).toNat)] : List Wd).map (·.1)) := cv_row (K := fun x => nx <= x /\ x < nxC + 2) (id := nxC + 1) ⟨by omega, by omega⟩ (.inl rfl) (by rw [gp rfl]; rfl) rfl
     have hw2 : ∀ x ∈ ([((.slice aA (tw.take i.toNat).length cA), tw.take i.toNat), ((.slice (some ⟨nxC, 0, none⟩) 1 1), [(ith [0, (IntKind.i64.wrap (ith tw i - 1))] j)]), ((.slice aB (tw.drop (i + 1).toNat).length cB), tw.drop (i + 1).toNat)] : List Wd), IV ((tC.set nxC (.row [.int .i64 (ith [0, (IntKind.i64.wrap (ith tw i - 1))] j)] nxC BIG false 1)).set (nxC + 1) (.row [(.slice aA (tw.take i.toNat).length cA), (.slice (some ⟨nxC, 0, none⟩) 1 1), (.slice aB (tw.drop (i + 1).toNat).length cB)] (nxC + 1) BIG false 3)) (fun x => nx <= x /\ x < nxC + 2) x.1 x.2 := fun x hx => by
      simp only [List.mem_cons, List.not_mem_nil, or_false] at hx
      rcases hx with rfl | rfl | rfl
      ·exact (iA.keep (fun x q => hkC2 x ow)).mono fun x q => by omega
      ·exact iv_row (K := fun x => nx <= x /\ x < nxC + 2) (id := nxC) ⟨by omega, by omega⟩ (.inl rfl) (by rw [gn ow, gp rfl]; rfl)
      ·exact (iB.keep (fun x q => hkC2 x ow)).mono fun x q => by omega
     have hf2 : flW ([((.slice aA (tw.take i.toNat).length cA), tw.take i.toNat), ((.slice (some ⟨nxC, 0, none⟩) 1 1), [(ith [0, (IntKind.i64.wrap (ith tw i - 1))] j)]), ((.slice aB (tw.drop (i + 1).toNat).length cB), tw.drop (i + 1).toNat)] : List Wd) = tw.set i.toNat (kW tw i j) := by
      rw [<-set_cat i0 ow, <-hkv]
      simp [flW]
     have zf2 : (flW ([((.slice aA (tw.take i.toNat).length cA), tw.take i.toNat), ((.slice (some ⟨nxC, 0, none⟩) 1 1), [(ith [0, (IntKind.i64.wrap (ith tw i - 1))] j)]), ((.slice aB (tw.drop (i + 1).toNat).length cB), tw.drop (i + 1).toNat)] : List Wd)).length <= 24 := by rw [hf2, List.length_set]; omega
     refine d_callR (tab_missR zd (tab_hitR (cat_c (nx := nxC + 2) hc2 hw2 (fun x q => q.2) (by show 3 <= 1000; decide) ow ow (Nat.le_refl _)))) (wA_none rfl) rfl rfl rfl (by simp only [evs, ev_tmp, Tr.get_set, reduceIte, Nat.reduceEqDiff, Nat.reduceAdd, heC0, heC3, heC4, heC5, heC10, heC11, heC12, heC32, heC33, heC34, g4, g6] <;> rfl) zd (fun v5 t5 n5 w5 hR5 => ?_)
     obtain ⟨tq5, nq5, wq5, he5, hF5, hI5⟩ := hR5
     cases he5
     have la5 := hF5.le
     have lb5 := hF5.hi
     have lc5 := hF5.wlo
     have ld5 := hF5.whi
     rw [hf2] at hI5
     rw [hf2] at zf2
     refine d_callR (tab_hitR (trim_c (nx := n5) hI5 (fun x q => q.2) ow ow (Nat.le_refl _))) (wA_none rfl) rfl rfl rfl (by simp only [evs, ev_tmp, Tr.get_set, reduceIte, Nat.reduceEqDiff, Nat.reduceAdd, heC0, heC3, heC4, heC5, heC10, heC11, heC12, heC32, heC33, heC34, g4, g6] <;> rfl) zd (fun v6 t6 n6 w6 hR6 => ?_)
     obtain ⟨tq6, nq6, wq6, he6, hF6, hI6⟩ := hR6
     cases he6
     have la6 := hF6.le
     have lb6 := hF6.hi
     have lc6 := hF6.wlo
     have ld6 := hF6.whi
     obtain ⟨cc, hcc⟩ : ∃ y, y = trim (tw.set i.toNat (kW tw i j)) := ⟨_, rfl⟩
     have hz6 : cc.length <= 24 := by rw [hcc]; have := trim_le (tw.set i.toNat (kW tw i j)); omega
     rw [<-hcc] at hI6
     obtain ⟨a6, c6, e6⟩ := hI6.len
     subst e6
     refine ds (y_bsliceV rfl za rfl u38 T.s22 T.z22 rfl rfl) ?_
     have fr6 : ∀ x, x < nxC -> (t6.set n6 (.row [(.slice a6 cc.length c6)] n6 BIG false 1)).get x = tC.get x := fun x q => by
      rw [gn ow]
      exact (hF6.same x ow).trans ((hF5.same x ow).trans (hkC2 x q))
     have hlL : (L3.map (·.1)).length <= 39 := by rw [List.length_map, <-List.length_map (f := fun x : Wd => x.2), hMC]; have := C2_len (tw := tw) (i := i) (j := j) i0; omega
     refine d_appC hQC.acc (cells_cv (show CV (t6.set n6 (.row [(.slice a6 cc.length c6)] n6 BIG false 1)) (fun x => x = n6) (.slice (some ⟨n6, 0, none⟩) 1 1) [(.slice a6 cc.length c6)] from cv_row (K := fun x => x = n6) rfl (.inl rfl) (by rw [gp rfl]; rfl) rfl) u38 T.s22) (wA_none rfl) rfl rfl rfl (by simp only [evs, ev_tmp, Tr.get_set, reduceIte, Nat.reduceEqDiff, Nat.reduceAdd, heC0, heC3, heC4, heC5, heC10, heC11, heC12, heC32, heC33, heC34, g4, g6] <;> rfl) rfl rfl zr u38 T.i38 zd zd rfl ow (fun x hx => fr6 x (hQC.acc.bnd x hx).2) ow (by show _ + 1 <= 1000000; omega) (fun v7 t7 n7 w7 S7 hA7 => ?_)
     have la7 := hA7.le
     have lb7 := hA7.hi
     have lc7 := hA7.wlo
     have ld7 := hA7.whi
     have ac7 := hA7.acc
     have fr7 : ∀ x, x < nxC -> ¬ S3 x -> t7.get x = tC.get x := fun x q h => (hA7.same x h ow).trans (fr6 x q)
     have nS7 : ∀ x, nxC <= x -> ¬ S3 x := fun x q h => by have := hQC.acc.bnd x h; omega
     have hw7 : IV t7 (fun i => nxC <= i /\ i < n6 + 1) _ cc := (hI6.keep (t' := t7) (fun x q => (hA7.same x (nS7 x ow) ow).trans (by rw [gn ow]))).mono (fun x q => by omega)
     have hQ7 := QS.app hQC ow ow ow fr7 hw7 ow ac7 hA7.sub
     refine ds (x_assign rfl za) ?_
     refine d_done ⟨de_ok (tail_my (B := 0) (Y := none) (M := [0, 0, 0, 1, 0, 1, 0, 0, 0, 1, 1, 1, 1, 1, 2, 0]) (fw := 0) (my_op (my_w (my_q (my_q (my_q (my_q (my_q (my_op (my_op (my_op (my_q (my_op (my_q (my_op (my_op (my_op my_nil ow) ow) ow) ow) ow) ow) ow) ow) ow) ow) ow) ow) ow) ow) (Nat.zero_le _) (fun y q => by cases q)) ow) zd zr) (by try dsimp only; omega) (by try dsimp only; omega), ?_⟩
     refine se_block (se_seq (s_region hP hC ?_))
     refine os (x_bin rfl za (by rfl) b_add) ?_
     refine oM ?_
     refine o_done ?_
     refine se_loop ?_
     have hw1 : IntKind.i64.wrap (j + 1) = j + 1 := IntWalk.i64_in _ ow
     have hst := C2_yes (tw := tw) (i := i) (of_decide_eq_true g6) j0 (show j < 2 by omega)
     rw [<-hcc] at hst
     exact ⟨j + 1, ⟨_, _, _, _, _, _, _, rfl, za, za, za, za, za, za, za, za, za, (by simp only [Tr.get_set, reduceIte, Nat.reduceEqDiff, Nat.reduceAdd, hw1, heC0, heC3, heC4, heC5, heC10, heC11, heC12, heC32, heC33, heC34, g4, g6] <;> rfl), by omega, by omega, hQ7, by rw [List.map_append, hMC, hst]; rfl, by simp, fun h => (hA7.sub _ h).elim hSC (fun q => by omega), by omega, (fr7 nxB hnC hSC).trans hrC, ⟨ozz, ozz, zwl, zwh, fun x (q : x < n1) => (fr7 x ow (fun h => by have := hQC.acc.bnd x h; omega)).trans (hGC.same x q)⟩⟩, by omega⟩
    ·have p6 := g6; try simp only [dd] at p6
     refine s_skip (se_block (se_seq (s_region hP hC ?_)))
     refine os (x_bin rfl za (by rfl) b_add) ?_
     refine oM ?_
     refine o_done ?_
     refine se_loop ?_
     have hw1 : IntKind.i64.wrap (j + 1) = j + 1 := IntWalk.i64_in _ ow
     have hst := C2_no (tw := tw) (i := i) (j := j) (of_decide_eq_false g6)
     exact ⟨j + 1, ⟨_, _, _, _, _, _, _, rfl, za, za, za, za, za, za, za, za, za, (by simp only [Tr.get_set, reduceIte, Nat.reduceEqDiff, Nat.reduceAdd, hw1, heC0, heC3, heC4, heC5, heC10, heC11, heC12, heC32, heC33, heC34, g4, g6] <;> rfl), by omega, by omega, hQC, by rw [hMC, hst], hNC, hSC, hnC, hrC, Fr.low hGC ow⟩, by omega⟩
   ·have p4 := g4; try simp only [dd] at p4
    refine s_exit ?_
    refine se_seq_exit ?_
    refine se_loop_exit ?_
    refine se_block_eq (se_block (se_seq (s_region hP hC ?_)))
    refine os (x_bin rfl za (by rfl) b_add) ?_
    refine oM ?_
    refine o_done ?_
    refine se_loop ?_
    have hw1 : IntKind.i64.wrap (i + 1) = i + 1 := IntWalk.i64_in _ ow
    rw [show j = 2 by omega, C2_2 i0] at hMC
    exact ⟨i + 1, ⟨_, _, _, _, _, _, _, rfl, za, za, za, za, (by simp only [Tr.get_set, reduceIte, Nat.reduceEqDiff, Nat.reduceAdd, hw1, heC0, heC3, heC4, heC5, heC10, heC11, heC12, heC32, heC33, heC34, g4] <;> rfl), by omega, by omega, hQC, hMC, Fr.low hGC ow⟩, by omega⟩
 ·have p2 := g2; try simp only [dd] at p2
  refine s_exit ?_
  refine se_seq_exit ?_
  refine se_loop_exit ?_
  refine se_block_eq (se_seq ?_)
  rw [show i.toNat = tw.length by omega] at hMA
  by_cases hL0 : L = []
  ·have hv0 := hQA.nil hL0
   subst hv0
   refine s_seq (s_region hP hC (oM ?_))
   refine o_callR (tab_missR zd (tab_missR zd (tab_hitR sort_nil))) (wA_none rfl) rfl rfl rfl (by simp only [evs, ev_tmp, Tr.get_set, reduceIte, Nat.reduceEqDiff, Nat.reduceAdd, heA0, heA3, heA10, heA11, heA12, g2] <;> rfl) zd (fun v8 h8 hR8 => ?_)
   subst hR8
   refine o_done (se_seq (s_seq (s_region hP hC (oM ?_))))
   refine o_callR (tab_missR zd (tab_missR zd (tab_missR zd (tab_hitR cmpf_nil)))) (wA_none rfl) rfl rfl rfl (by simp only [evs, ev_tmp, Tr.get_set, reduceIte, Nat.reduceEqDiff, Nat.reduceAdd, heA0, heA3, heA10, heA11, heA12, g2] <;> rfl) zd (fun v9 h9 hR9 => ?_)
   obtain ⟨rfl, rfl⟩ := hR9
   refine oA ?_
   refine o_done (se_seq ?_)
   refine s_ret ?_
   refine ⟨.inr rfl, _, (by simp only [Tryz.results9, resA, Tr.get_set, reduceIte, Nat.reduceEqDiff, Nat.reduceAdd] <;> rfl), fun K2 s2 l2 hs2 hb2 => ?_⟩
   cases hs2
   rw [hs.uniq hb2, <-hT]
   exact ⟨_, _, _, [], rfl, ⟨ozz, ozz, ozz, ozz, fun x (q : x < nx) => (hGA.same x ow).trans (hF1.same x q)⟩, ⟨.inl ⟨rfl, rfl⟩, fun x hx => by cases hx⟩, .nil, fun y => by rw [<-hMA, hL0], Nat.zero_le _⟩
  ·obtain ⟨id, r, rfl, own, sr, si⟩ : ∃ id r, vO = .slice (some ⟨id, 0, none⟩) L.length (L.length + 1) /\ OwnS tA r id (vals L.toArray) /\ S r /\ S id := by
    rcases hQA.acc with h | ⟨h, _⟩
    ·rcases h.acc with ⟨h, _⟩ | ⟨_, _, id, r, e1, e2, e3, e4⟩
     ·rw [List.length_map] at h
      exact absurd (List.eq_nil_of_length_eq_zero h) hL0
     ·rw [List.length_map] at e1
      exact ⟨id, r, e1, e2.s, e3, e4⟩
    ·exact absurd (List.map_eq_nil_iff.1 h) hL0
   have br := hQA.acc.bnd r sr
   have bi := hQA.acc.bnd id si
   have hsz : L.toArray.size <= 36 := by
    have := cands_len (T := tw) (n := tw.length)
    have h2 := congrArg List.length hMA
    rw [List.length_map] at h2
    show L.length <= 36
    omega
   have hds : DS tA (fun i => n1 <= i /\ i < nxA /\ ¬ S i) r id L.toArray := ⟨own, fun x hx => ⟨(hQA.wd x hx).1, by have := (hQA.wd x hx).2; omega⟩⟩
   have hKd : ∀ i, (n1 <= i /\ i < nxA /\ ¬ S i) -> i < nxA /\ i ≠ r := fun i q => ⟨q.2.1, fun e => q.2.2 (e ▸ sr)⟩
   refine s_seq (s_region hP hC (oM ?_))
   refine o_callR (tab_missR zd (tab_missR zd (tab_hitR (sort_c (nx := nxA) hds hKd br.2 bi.2 ow ow ow)))) (wA_none rfl) rfl rfl rfl (by simp only [evs, ev_tmp, Tr.get_set, reduceIte, Nat.reduceEqDiff, Nat.reduceAdd, heA0, heA3, heA10, heA11, heA12, g2] <;> rfl) zd (fun v8 h8 hR8 => ?_)
   obtain ⟨t8, n8, w8, P8, rfl, o8, p8, s8, f8⟩ := hR8
   have u1 := f8.le
   have u2 : n8 <= nxA + 30000000 := Nat.le_trans f8.hi (bud36 hsz)
   have hidb : nx <= id /\ id < n8 := ⟨by omega, by omega⟩
   have hrb : nx <= r /\ r < n8 := ⟨by omega, by omega⟩
   have u3 := f8.wlo
   have u4 := f8.whi
   obtain ⟨z1, z2, z3⟩ := sorted_words p8 s8 hMA (fun y hy => cands_trim hy)
   have hsz8 : P8.size = L.toArray.size := p8.1
   have d8 := hds.step (P' := P8) o8 f8.same hKd (perm_kept p8 (Nat.le_refl _)).2
   refine o_done (se_seq (s_seq (s_region hP hC (oM ?_))))
   refine o_callR (tab_missR zd (tab_missR zd (tab_missR zd (tab_hitR (cmpf_i (n := L.length) (nx := n8) d8 hsz8.symm (fun i q => ⟨by have := hKd i q; omega, (hKd i q).2⟩) ow ow ow ow ow))))) (wA_none rfl) rfl rfl rfl (by simp only [evs, ev_tmp, Tr.get_set, reduceIte, Nat.reduceEqDiff, Nat.reduceAdd, heA0, heA3, heA10, heA11, heA12, g2] <;> rfl) zd (fun v9 h9 hR9 => ?_)
   obtain ⟨t9, w9, rfl, c9, f9⟩ := hR9
   have u5 := f9.wlo
   have u6 := f9.whi
   refine oA ?_
   refine o_done (se_seq ?_)
   refine s_ret ?_
   refine ⟨.inr rfl, _, (by simp only [Tryz.results9, resA, Tr.get_set, reduceIte, Nat.reduceEqDiff, Nat.reduceAdd] <;> rfl), fun K2 s2 l2 hs2 hb2 => ?_⟩
   cases hs2
   rw [hs.uniq hb2, <-hT]
   exact ⟨_, _, _, cmpP P8 P8.size, rfl, ⟨ozz, ozz, ozz, ozz, fun x (q : x < nx) => (f9.same x ow ow).trans ((f8.same x ow ow).trans ((hGA.same x ow).trans (hF1.same x q)))⟩, ⟨c9.mono (fun x q => q.elim (fun h => by show nx <= x /\ x < n8; rw [h]; exact hidb) (fun h => by show nx <= x /\ x < n8; rw [h]; exact hrb)), fun x hx => ⟨(((hQA.wd x (z3 x hx)).1.keep (fun i q => (f9.same i (by have := hKd i q; omega) (hKd i q).2).trans (f8.same i (hKd i q).1 (hKd i q).2))).mono fun i q => (show nx <= i /\ i < n8 from ⟨Nat.le_trans la1 q.1, Nat.lt_of_lt_of_le q.2.1 u1⟩)), (hQA.wd x (z3 x hx)).2⟩⟩, z1, z2, by have := cmpP_len (P := P8) P8.size; omega⟩
end Go.Proofs.YtmladpbadglecaaGreatDoor
