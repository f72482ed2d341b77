/-
  A sorted list without doubles.
-/
import Derived.Test.YtmladpbadglecaaGreatDoorHCv
set_option linter.unusedSimpArgs false
set_option linter.unusedVariables false
namespace Go.Proofs.YtmladpbadglecaaGreatDoor
open Go.AM
set_option maxRecDepth 100000
set_option maxHeartbeats 1000000
open Go.Sort
set_option maxHeartbeats 16000000
abbrev EQV : Value := .func (.func 20) ⟨[]⟩ ⟨[]⟩
section
variable {P : Program} {call : Call'} {e : Tr Value} {o : Oper} {T el : TypeId} {x lo : Operand} {id off n : Nat} {i : Int} {h : AH}
theorem y_sliceLo1 (ho : o.op = .slice T x (some lo) none none) (hx : ev e x = some (.slice (some ⟨id, off, none⟩) n (n + 1))) (hl : ev e lo = some (.int .i64 i)) (hu : P.underlying T = some (.slice el)) (hz : szOf P el = some 1) (hi0 : 0 <= i) (hi1 : i <= n) :
  doOp P call e h o = some (.slice (some ⟨id, off + i.toNat * 1, none⟩) (n - i.toNat) (n - i.toNat + 1), h) := y_sliceLo (q := 0) (sz := 1) ho hx hl hu hz zd hi0 hi1
theorem y_sliceHi1 (ho : o.op = .slice T x none (some lo) none) (hx : ev e x = some (.slice (some ⟨id, off, none⟩) n (n + 1))) (hl : ev e lo = some (.int .i64 i)) (hu : P.underlying T = some (.slice el)) (hz : szOf P el = some 1) (hi0 : 0 <= i) (hi1 : i <= n) :
  doOp P call e h o = some (.slice (some ⟨id, off, none⟩) i.toNat (i.toNat + 1 + 4294967296 * (n - i.toNat)), h) := y_sliceHi (q := 0) (sz := 1) ho hx hl hu hz zd hi0 ow
end
theorem storeS {t : Tr AObj} {r id nx wr off : Nat} {d vs : List Value} (hO : OwnS t r id d) (hl : off + vs.length <= d.length) (h1 : vs.all oneC = true) :
  ∃ t', OwnS t' r id (splice d off vs) /\ (∀ k, k ≠ r -> t'.get k = t.get k) /\ storeC ⟨t, nx, wr⟩ id off vs = some ⟨t', nx, min wr r⟩ := by
 obtain ⟨low, n0, hf0, hgq⟩ := hO.fam (nx := nx) (wr := wr)
 have hsl := splice_len hl
 refine ⟨t.set r (.row (splice d off vs) id (if id = r then low else addT low nx off) false n0), ?_, fun k hk => by rw [Tr.get_set, if_neg hk], ?_⟩
 ·obtain ⟨low', n0', ⟨rfl, k1⟩ | ⟨k0, k1, k2⟩⟩ := hO
  ·rw [k1] at hgq
   simp only [Option.some.injEq, AObj.row.injEq] at hgq
   obtain ⟨_, _, _, _, rfl⟩ := hgq
   exact ⟨_, 0, .inl ⟨rfl, by rw [gp rfl, hsl]⟩⟩
  ·exact ⟨_, n0, .inr ⟨k0, by rw [Tr.get_set, if_neg (fun q => k0 q.symm), hsl]; exact k1, by rw [gp rfl]⟩⟩
 ·have hf : (⟨t, nx, wr⟩ : AH).fam id = some ⟨r, 0, d.length, d, id, low, false⟩ := hf0
  simp only [storeC, hf]
  rw [if_pos ⟨trivial, trivial, Nat.zero_le _, by show off + vs.length <= d.length; omega, by rw [h1]⟩]
  simp only [hgq]
theorem x_clearS {P : Program} {T el : TypeId} {t : Tr AObj} {r id nx off n : Nat} {z : Value} {d : List Value} (hO : OwnS t r id d) (hu : P.underlying T = some (.slice el)) (hz : (P.info? el).bind (·.zero) = some z) (hzf : free1 z = true) (hz1 : z.cells.toList = [z]) (ho1 : oneC z = true) (hn : 0 < n) (hl : off + n <= d.length) :
  ∃ t', OwnS t' r id (splice d off (zerosC [z] n)) /\ (∀ k, k ≠ r -> t'.get k = t.get k) /\ ∀ {call : Call'} {e : Tr Value} {o : Oper} {c : Call} {cap wr : Nat}, o.op = .call c -> c.callee = .builtin .clear -> evs e c.args.toList = some [.slice (some ⟨id, off, none⟩) n cap] -> c.argTypes[0]? = some T -> doOp P call e ⟨t, nx, wr⟩ o = some (undef, ⟨t', nx, min wr r⟩) := by
 have hlen : (zerosC [z] n).length = n := by rw [zerosC_len, List.length_singleton, Nat.mul_one]
 obtain ⟨t', o', s', hs⟩ := storeS (nx := nx) (wr := 0) (vs := zerosC [z] n) hO (by rw [hlen]; exact hl) (zerosC_all (by simp [ho1]))
 refine ⟨t', o', s', fun {call e o c cap wr} ho hc ha ht => ?_⟩
 obtain ⟨t2, o2, s2, hs2⟩ := storeS (nx := nx) (wr := wr) (vs := zerosC [z] n) hO (by rw [hlen]; exact hl) (zerosC_all (by simp [ho1]))
 have e2 : t2 = t' := by
  obtain ⟨low, n0, hf0, hgq⟩ := hO.fam (nx := nx) (wr := wr)
  have hf : (⟨t, nx, wr⟩ : AH).fam id = some ⟨r, 0, d.length, d, id, low, false⟩ := hf0
  have hf' : (⟨t, nx, 0⟩ : AH).fam id = some ⟨r, 0, d.length, d, id, low, false⟩ := hf0
  simp only [storeC, hf', hgq] at hs
  simp only [storeC, hf, hgq] at hs2
  split at hs
  ·rename_i hc1
   rw [if_pos hc1] at hs2
   simp only [Option.some.injEq, AH.mk.injEq] at hs hs2
   exact hs2.1.symm.trans hs.1
  ·cases hs
 subst e2
 unfold doOp
 rw [ho]
 simp only [doCall, ha, hc, abuiltin, clearV, ht, hu, hz]
 rw [if_neg ow, if_pos ⟨hzf, by rw [<-Array.length_toList, hz1]; exact Nat.zero_lt_one⟩, hz1, hs2]
 rfl
def cmpP (P : Array Wd) : Nat -> List Wd
 | 0 => []
 | n + 1 => if n = 0 \/ (P[n]!).2 ≠ (P[n - 1]!).2 then cmpP P n ++ [P[n]!] else cmpP P n
theorem cmp_new {P : Array Wd} {k : Int} (h0 : 1 <= k) (h : (P[k.toNat]!).2 ≠ (P[(k - 1).toNat]!).2) : cmpP P (k + 1).toNat = cmpP P k.toNat ++ [P[k.toNat]!] := by
 rw [show (k + 1).toNat = k.toNat + 1 by omega, cmpP, if_pos (.inr (by rw [show k.toNat - 1 = (k - 1).toNat by omega]; exact h))]
theorem cmp_old {P : Array Wd} {k : Int} (h0 : 1 <= k) (h : (P[k.toNat]!).2 = (P[(k - 1).toNat]!).2) : cmpP P (k + 1).toNat = cmpP P k.toNat := by
 rw [show (k + 1).toNat = k.toNat + 1 by omega, cmpP, if_neg]
 rintro (q | q)
 ·omega
 ·exact q (by rw [show k.toNat - 1 = (k - 1).toNat by omega]; exact h)
theorem take_one {P : Array Wd} {k : Int} (h0 : 0 <= k) (h1 : k < P.size) : P.toList.take (k + 1).toNat = P.toList.take k.toNat ++ [P[k.toNat]!] := by
 rw [show (k + 1).toNat = k.toNat + 1 by omega, List.take_succ_eq_append_getElem (by rw [Array.length_toList]; omega), getElem!_pos P k.toNat ow]
 rfl
theorem cmp_small {P : Array Wd} (h : P.size < 2) : cmpP P P.size = P.toList := by
 rcases hs : P.size with _ | _ | n
 ·have := Array.eq_empty_of_size_eq_zero hs
  subst this
  rfl
 ·have := take_one (P := P) (k := 0) ow ow
  rw [show cmpP P (0 + 1) = [P[0]!] from rfl]
  rw [show ((0 : Int) + 1).toNat = P.toList.length by rw [Array.length_toList, hs]; rfl, List.take_length, show ((0 : Int)).toNat = 0 from rfl, List.take_zero, List.nil_append] at this
  exact this.symm
 ·omega
theorem set_take {A : Array Wd} {k : Int} {x : Wd} (h0 : 0 <= k) (h1 : k < A.size) : (A.setIfInBounds k.toNat x).toList.take (k + 1).toNat = A.toList.take k.toNat ++ [x] := by
 rw [take_one h0 (by rw [Array.size_setIfInBounds]; exact h1), Array.toList_setIfInBounds, List.take_set_of_le (Nat.le_refl _)]
 congr 2
 rw [getElem!_pos _ _ (by rw [Array.size_setIfInBounds]; omega), Array.getElem_setIfInBounds_self]
theorem vals_set {A : Array Wd} {i : Nat} {x : Wd} : vals (A.setIfInBounds i x) = (vals A).set i x.1 := by
 unfold vals
 rw [Array.toList_setIfInBounds, List.map_set]
theorem set_same {A : Array Wd} {i k : Nat} {x : Wd} (h : k ≠ i) : (A.setIfInBounds i x)[k]! = A[k]! := by
 rw [getElem!_def, getElem!_def, Array.getElem?_setIfInBounds_ne (fun q => h q.symm)]
theorem mem_setA {A : Array Wd} {i : Nat} {x y : Wd} (h : y ∈ (A.setIfInBounds i x).toList) : y ∈ A.toList \/ y = x := by
 rw [Array.toList_setIfInBounds] at h
 exact List.mem_or_eq_of_mem_set h
theorem l_valsN {h : AH} {id n : Nat} {A : Array Wd} {d : List Value} (hw : Whole h id d) (hd : d.take n = (A.toList.take n).map (·.1)) (hn : n <= d.length) : loadC h id 0 n = some ((A.toList.take n).map (·.1)) := by
 rw [l_whole hw 0 n ow, List.drop_zero, hd]
def eNilC : Ent := ⟨[.slice none 0 0, EQV], [], .slice none 0 0, []⟩
theorem okNilC : EntOk Tryz.prog 19 eNilC := runE_ok Fits pkS csNil (n := 400) zr zr zr
theorem ent_nilC {H : AH} : entC [eNilC] [.slice none 0 0, EQV] H = some (.slice none 0 0, H) := by
 show entGo H [.slice none 0 0, EQV] 0 [] [eNilC] = _
 unfold entGo
 rw [if_pos (by rfl)]
 rfl
def R_cmpf : List Value -> AH -> Value -> AH -> Prop := fun args h v h' => (args = [.slice none 0 0, EQV] -> h' = h /\ v = .slice none 0 0) /\ ∀ K r id (P : Array Wd), args = [.slice (some ⟨id, 0, none⟩) P.size (P.size + 1), EQV] -> DS h.t K r id P -> ∃ t' wr', h' = ⟨t', h.next, wr'⟩ /\ CV t' (fun i => i = id \/ i = r) v ((cmpP P P.size).map (·.1)) /\ FrX h.t h.next h.wr t' h.next wr' r 0
noncomputable def c_cmpf := cEx Tryz.prog 19 R_cmpf
theorem con_cmpf : Con Tryz.prog 19 c_cmpf := con_ex Tryz.func19 rfl
theorem cmpf_nil {H : AH} : ∃ v h', c_cmpf [.slice none 0 0, EQV] H = some (v, h') /\ h' = H /\ v = .slice none 0 0 := by
 have hm := (con_ents Tryz.func19 rfl (ents_cons okNilC ents_nil)).2 [.slice none 0 0, EQV] H _ _ ent_nilC
 obtain ⟨v, h', q, x, _⟩ := cEx_hit (R := R_cmpf) ⟨_, _, hm, fun _ => ⟨rfl, rfl⟩, fun K r id P hs => by cases hs⟩
 exact ⟨v, h', q, x rfl⟩
theorem cmpf_c {t : Tr AObj} {K : Nat -> Prop} {r id nx wr : Nat} {P : Array Wd} (hd : DS t K r id P) (hK : ∀ i, K i -> i < nx /\ i ≠ r) (hr : r < nx) (hid : id < nx) (hz : P.size <= 40) (hN : nx <= BIG) (hwr : wr <= BIG) : ∃ v h', c_cmpf [.slice (some ⟨id, 0, none⟩) P.size (P.size + 1), EQV] ⟨t, nx, wr⟩ = some (v, h') /\ ∃ t' wr', h' = ⟨t', nx, wr'⟩ /\ CV t' (fun i => i = id \/ i = r) v ((cmpP P P.size).map (·.1)) /\ FrX t nx wr t' nx wr' r 0 := by
 have hP := Fits
 have hC : CallSound Tryz.prog (tabOf [(20, c_eq)]) := tab_sound (tab_cons con_eq tab_end)
 suffices key : SureK Tryz.prog ⟨t, nx, wr⟩ _ [] _ (EndR Tryz.prog _ (R_cmpf [.slice (some ⟨id, 0, none⟩) P.size (P.size + 1), EQV] ⟨t, nx, wr⟩)) by
  obtain ⟨v, h', q, x⟩ := sure_start (R := R_cmpf) (sz := 66) Tryz.func19 rfl rfl zo key
  exact ⟨v, h', q, x.2 K r id P rfl hd⟩
 refine s_seq (s_region hP hC (oA ?_))
 refine o_done (se_seq (s_seq (s_seq (s_region hP hC (oM ?_)))))
 refine os (x_len rfl rfl zv rfl u38) ?_
 refine os (x_bin rfl zt (by rfl) b_lss) ?_
 refine o_done (se_seq ?_)
 refine s_cond zt (fun g2 => ?_) (fun g2 => ?_)
 ·have p2 := g2; try simp only [dd] at p2
  refine s_seq (s_region hP hC (oM ?_))
  refine oA ?_
  refine o_done (se_seq ?_)
  refine s_ret ?_
  refine se_seq_ret ?_
  have hPP := cmp_small (P := P) ow
  have hlW : ((cmpP P P.size).map (·.1)).length = P.size := by rw [hPP, List.length_map, Array.length_toList]
  refine ⟨.inr rfl, _, (by simp only [Tryz.results19, resA, Tr.get_set, reduceIte, Nat.reduceEqDiff, Nat.reduceAdd] <;> rfl), And.intro (fun h => by cases h) (fun K2 r2 id2 Q2 hs2 hd2 => ?_)⟩
  simp only [List.cons.injEq, Value.slice.injEq, Option.some.injEq, Addr.mk.injEq, and_true, true_and] at hs2
  obtain ⟨rfl, hsz⟩ := hs2
  obtain ⟨h5, h6⟩ := hd.uniq hd2
  obtain rfl := h5.symm
  obtain rfl := h6.symm
  exact ⟨_, _, rfl, .inr ⟨id, 0, _, by rw [hlW]; rfl, .inr ⟨0, by rw [hlW]⟩, fun t' nx' wr' hk => by rw [hlW, hPP]; exact l_all ((hd.own.keep (hk _ (.inl rfl)) (hk _ (.inr rfl))).whole) (vals_len _).symm⟩, ⟨Nat.le_refl _, ozz, ozz, ozz, fun i q1 q2 => rfl⟩⟩
 ·have p2 := g2; try simp only [dd] at p2
  refine s_skip (se_seq (s_seq (s_seq (s_region hP hC (oA ?_)))))
  refine o_done (se_seq (s_block ?_))
  refine s_loop (α := Int) (fun k s' => ∃ e, s' = ⟨e, 66, ⟨t, nx, wr⟩⟩ /\ e.get 0 = some (.slice (some ⟨id, 0, none⟩) P.size (P.size + 1)) /\ e.get 1 = some (EQV) /\ e.get 5 = some (.int .i64 (k)) /\ 1 <= k /\ k <= P.size /\ cmpP P k.toNat = P.toList.take k.toNat) (fun k => (P.size + 5 - k).toNat) 1 ⟨_, rfl, zh, zh, zh, by omega, by omega, (take_one (P := P) (k := 0) ow ow).symm⟩ ?_
  rintro k s' ⟨e, rfl, heA0, heA1, heA5, k0, k1, hE⟩
  refine s_seq (s_seq (s_region hP hC (oM ?_)))
  refine oM ?_
  refine os (x_len rfl rfl (by simp only [evs, ev_tmp, Tr.get_set, reduceIte, Nat.reduceEqDiff, Nat.reduceAdd, heA0, heA1, heA5] <;> rfl) rfl u38) ?_
  refine os (x_bin rfl za za b_lss) ?_
  refine o_done (se_seq ?_)
  refine s_cond za (fun g4 => ?_) (fun g4 => ?_)
  ·have p4 := g4; try simp only [dd] at p4
   refine s_skip (se_seq (s_seq (s_block (s_seq ?_))))
   have hqB : nx <= BIG := by omega
   refine s_draw hP hC zr ?_
   refine dM ?_
   refine dM ?_
   refine dM ?_
   refine ds (x_index rfl za za u38 T.s22 ow ow) ?_
   refine ds (x_load1 rfl za T.g22 (l_vals hd.own.whole ow ow)) ?_
   refine dM ?_
   refine dM ?_
   refine ds (x_bin (u := .int .i64 (k - 1)) rfl za (by rfl) (by rw [b_sub, IntWalk.i64_in _ ow])) ?_
   refine ds (x_index rfl za za u38 T.s22 ow ow) ?_
   refine ds (x_load1 rfl za T.g22 (l_vals hd.own.whole ow ow)) ?_
   have hv11 := hd.iv _ (mem_at (P := P) (i := (k).toNat) ow)
   have hv21 := hd.iv _ (mem_at (P := P) (i := (k - 1).toNat) ow)
   refine d_callRC (vs := [(P[(k).toNat]!).1, (P[(k - 1).toNat]!).1]) (cap := []) (tab_hitR (eq_c (nx := nx) hv11.1 hv21.1 hv11.2 hv21.2 hN (Nat.le_refl _))) (wA_none rfl) rfl rfl rfl za (by simp only [evs, ev_tmp, Tr.get_set, reduceIte, Nat.reduceEqDiff, Nat.reduceAdd, heA0, heA1, heA5, g4] <;> rfl) zd (fun v1 ta1 na1 wa1 hR1 => ?_)
   obtain ⟨hh1, rfl⟩ := hR1
   cases hh1
   refine d_done ⟨de_quiet (by simp only [List.all_append, List.all_cons, List.all_nil, infOf, decide_eq_true hqB, Bool.and_self, show Inf.skip.quiet = true from rfl]) zBG zBG, ?_⟩
   refine se_seq ?_
   refine s_cond za (fun g5 => ?_) (fun g5 => ?_)
   ·have p5 := g5; try simp only [dd] at p5
    refine s_seq (s_region hP hC (oM ?_))
    refine oM ?_
    refine os (y_sliceLo1 rfl za za u38 T.s22 ow ow) ?_
    refine oA ?_
    refine o_done (se_seq (s_seq (s_seq (s_region hP hC (oA ?_)))))
    refine o_done (se_seq (s_block ?_))
    refine s_loop (α := Int) (fun m s' => ∃ e tB wqB, ∃ A : Array Wd, ∃ j : Int, s' = ⟨e, 66, ⟨tB, nx, wqB⟩⟩ /\ e.get 0 = some (.slice (some ⟨id, 0, none⟩) P.size (P.size + 1)) /\ e.get 1 = some (EQV) /\ e.get 5 = some (.int .i64 (j)) /\ e.get 6 = some (.slice (some ⟨id, 0 + k.toNat * 1, none⟩) (P.size - k.toNat) (P.size - k.toNat + 1)) /\ e.get 7 = some (.int .i64 (m)) /\ 1 <= m /\ m <= P.size - k /\ k <= j /\ j <= k + m - 1 /\ Kept P A /\ (∀ i : Nat, (k + m - 1).toNat <= i -> A[i]! = P[i]!) /\ A.toList.take j.toNat = cmpP P (k + m).toNat /\ OwnS tB r id (vals A) /\ FrX t nx wr tB nx wqB r 0) (fun m => (P.size + 5 - m).toNat) 1 ⟨_, _, _, P, k, rfl, za, za, za, za, za, by omega, by omega, by omega, by omega, ⟨rfl, fun x hx => hx⟩, fun i _ => rfl, by rw [cmp_old k0 (of_decide_eq_true g5), hE], hd.own, ⟨Nat.le_refl _, by omega, zwl, zwh, fun _ _ _ => rfl⟩⟩ ?_
    rintro m s' ⟨e, tB, wqB, A, j, rfl, heB0, heB1, heB5, heB6, heB7, m0, m1, j0, j1, kkB, hU, hE2, oB, hGB⟩
    have zB := kkB.1
    have gcB := hGB.wlo
    have gdB := hGB.whi
    have dB := hd.step (P' := A) oB hGB.same hK kkB.2
    refine s_seq (s_seq (s_region hP hC (oM ?_)))
    refine oM ?_
    refine os (x_len rfl rfl (by simp only [evs, ev_tmp, Tr.get_set, reduceIte, Nat.reduceEqDiff, Nat.reduceAdd, heB0, heB1, heB5, heB6, heB7] <;> rfl) rfl u38) ?_
    refine os (x_bin rfl za za b_lss) ?_
    refine o_done (se_seq ?_)
    refine s_cond za (fun g7 => ?_) (fun g7 => ?_)
    ·have p7 := g7; try simp only [dd] at p7
     refine s_skip (se_seq (s_seq (s_block (s_seq ?_))))
     have hqB : nx <= BIG := by omega
     refine s_draw hP hC zr ?_
     refine dM ?_
     refine dM ?_
     refine dM ?_
     refine ds (x_index rfl za za u38 T.s22 ow ow) ?_
     refine ds (x_load1 rfl za T.g22 (by rw [show 0 + k.toNat * 1 + (m).toNat * 1 = 0 + (k + m).toNat * 1 by omega]; exact l_vals (P := A) (i := k + m) oB.whole ow ow)) ?_
     refine dM ?_
     refine dM ?_
     refine ds (x_bin (u := .int .i64 (m - 1)) rfl za (by rfl) (by rw [b_sub, IntWalk.i64_in _ ow])) ?_
     refine ds (x_index rfl za za u38 T.s22 ow ow) ?_
     refine ds (x_load1 rfl za T.g22 (by rw [show 0 + k.toNat * 1 + (m - 1).toNat * 1 = 0 + (k + m - 1).toNat * 1 by omega]; exact l_vals (P := A) (i := k + m - 1) oB.whole ow ow)) ?_
     have hv12 := dB.iv _ (mem_at (P := A) (i := (k + m).toNat) ow)
     have hv22 := dB.iv _ (mem_at (P := A) (i := (k + m - 1).toNat) ow)
     refine d_callRC (vs := [(A[(k + m).toNat]!).1, (A[(k + m - 1).toNat]!).1]) (cap := []) (tab_hitR (eq_c (nx := nx) hv12.1 hv22.1 hv12.2 hv22.2 hN (Nat.le_refl _))) (wA_none rfl) rfl rfl rfl za (by simp only [evs, ev_tmp, Tr.get_set, reduceIte, Nat.reduceEqDiff, Nat.reduceAdd, heB0, heB1, heB5, heB6, heB7, g7] <;> rfl) zd (fun v2 ta2 na2 wa2 hR2 => ?_)
     obtain ⟨hh2, rfl⟩ := hR2
     cases hh2
     refine ds (x_not rfl zw) ?_
     refine d_done ⟨de_quiet (by simp only [List.all_append, List.all_cons, List.all_nil, infOf, decide_eq_true hqB, Bool.and_self, show Inf.skip.quiet = true from rfl]) zBG zBG, ?_⟩
     refine se_seq ?_
     refine s_cond za (fun g9 => ?_) (fun g9 => ?_)
     ·have p9 := g9; try simp only [dd] at p9
      refine s_seq (s_region hP hC (oM ?_))
      refine oM ?_
      refine oM ?_
      refine oM ?_
      refine os (x_index rfl za za u38 T.s22 ow ow) ?_
      refine os (x_load1 rfl za T.g22 (by rw [show 0 + k.toNat * 1 + (m).toNat * 1 = 0 + (k + m).toNat * 1 by omega]; exact l_vals (P := A) (i := k + m) oB.whole ow ow)) ?_
      refine os (x_index rfl za za u38 T.s22 ow ow) ?_
      have sv56 := (dB.iv _ (mem_at (P := A) (i := (k + m).toNat) ow)).1
      obtain ⟨tS56, oS56, kS56, hS56⟩ := x_storeS (P := Tryz.prog) (T := 22) (nx := nx) (off := 0 + j.toNat * 1) oB (one_cells sv56.one) T.s22 (by rw [vals_len]; omega) sv56.one
      refine o_stepN (wA_none rfl) rfl (hS56 rfl za za) ?_
      refine o_done (se_seq (s_region hP hC (oM ?_)))
      refine os (x_bin (u := .int .i64 (j + 1)) rfl za (by rfl) (by rw [b_add, IntWalk.i64_in _ ow])) ?_
      refine oA ?_
      refine o_done (se_block (se_seq (s_region hP hC (oM ?_))))
      refine os (x_bin (u := .int .i64 (m + 1)) rfl za (by rfl) (by rw [b_add, IntWalk.i64_in _ ow])) ?_
      refine oA ?_
      refine o_done ?_
      refine se_loop ?_
      have hw1 : IntKind.i64.wrap (m + 1) = m + 1 := IntWalk.i64_in _ ow
      have hw2 : IntKind.i64.wrap (j + 1) = j + 1 := IntWalk.i64_in _ ow
      have u1 := hU (k + m).toNat ow
      have u2 := hU (k + m - 1).toNat ow
      have ek : k + (m + 1) = k + m + 1 := by omega
      have hne : (P[(k + m).toNat]!).2 ≠ (P[(k + m - 1).toNat]!).2 := by rw [<-u1, <-u2]; exact nd_t g9
      exact ⟨m + 1, ⟨_, _, _, A.setIfInBounds j.toNat A[(k + m).toNat]!, j + 1, rfl, za, za, (by simp only [Tr.get_set, reduceIte, Nat.reduceEqDiff, Nat.reduceAdd, hw2, heB0, heB1, heB5, heB6, heB7, g7, g9] <;> rfl), za, (by simp only [Tr.get_set, reduceIte, Nat.reduceEqDiff, Nat.reduceAdd, hw1, heB0, heB1, heB5, heB6, heB7, g7, g9] <;> rfl), by omega, by omega, by omega, by omega, ⟨by rw [Array.size_setIfInBounds]; exact zB, fun x hx => by
        rcases mem_setA hx with q | q
        ·exact kkB.2 x q
        ·rw [q]; exact kkB.2 _ (mem_at ow)⟩, fun i hi => by rw [set_same ow]; exact hU i ow, by rw [set_take ow ow, hE2, ek, cmp_new ow hne, u1], by rw [vals_set]; rw [Nat.zero_add, Nat.mul_one] at oS56; exact oS56, ⟨Nat.le_refl _, by omega, ozz, ozz, fun i q1 q2 => (kS56 i q2).trans (hGB.same i q1 q2)⟩⟩, by omega⟩
     ·have p9 := g9; try simp only [dd] at p9
      refine s_skip (se_block (se_seq (s_region hP hC (oM ?_))))
      refine os (x_bin (u := .int .i64 (m + 1)) rfl za (by rfl) (by rw [b_add, IntWalk.i64_in _ ow])) ?_
      refine oA ?_
      refine o_done ?_
      refine se_loop ?_
      have hw1 : IntKind.i64.wrap (m + 1) = m + 1 := IntWalk.i64_in _ ow
      have hw2 : IntKind.i64.wrap (j + 1) = j + 1 := IntWalk.i64_in _ ow
      have u1 := hU (k + m).toNat ow
      have u2 := hU (k + m - 1).toNat ow
      have ek : k + (m + 1) = k + m + 1 := by omega
      have heq : (P[(k + m).toNat]!).2 = (P[(k + m - 1).toNat]!).2 := by rw [<-u1, <-u2]; exact nd_f g9
      exact ⟨m + 1, ⟨_, _, _, A, j, rfl, za, za, za, za, (by simp only [Tr.get_set, reduceIte, Nat.reduceEqDiff, Nat.reduceAdd, hw1, heB0, heB1, heB5, heB6, heB7, g7, g9] <;> rfl), by omega, by omega, by omega, by omega, kkB, fun i hi => hU i ow, by rw [hE2, ek, cmp_old ow heq], oB, FrX.wr hGB zwl zwh (Nat.le_refl _)⟩, by omega⟩
    ·have p7 := g7; try simp only [dd] at p7
     refine s_exit ?_
     refine se_seq_exit ?_
     refine se_loop_exit ?_
     refine se_block_eq (se_seq (s_seq (s_region hP hC (oM ?_))))
     refine oM ?_
     refine os (y_sliceLo1 rfl za za u38 T.s22 ow ow) ?_
     have hvl := vals_len A
     obtain ⟨tC, oC, kC, hCl⟩ := x_clearS (P := Tryz.prog) (T := 38) (nx := nx) (off := 0 + j.toNat * 1) (n := P.size - j.toNat) oB u38 T.z22 rfl rfl rfl ow ow
     refine o_stepN (wA_none rfl) rfl (hCl rfl rfl (by simp only [evs, ev_tmp, Tr.get_set, reduceIte, Nat.reduceEqDiff, Nat.reduceAdd, heB0, heB1, heB5, heB6, heB7, g7] <;> rfl) rfl) ?_
     refine o_done (se_seq (s_seq (s_region hP hC (oM ?_))))
     refine oM ?_
     refine os (y_sliceHi1 rfl za za u38 T.s22 ow ow) ?_
     refine oA ?_
     refine o_done (se_seq ?_)
     refine s_ret ?_
     refine se_block_ret ?_
     refine se_seq_ret ?_
     refine se_loop_ret ?_
     refine se_block_ret ?_
     refine se_seq_ret ?_
     have hj : (k + m) = (P.size : Int) := by omega
     rw [show (k + m).toNat = P.size by omega] at hE2
     have hW : (A.toList.take j.toNat).map (·.1) = (cmpP P P.size).map (·.1) := by rw [hE2]
     have hlW : ((cmpP P P.size).map (·.1)).length = j.toNat := by rw [<-hW, List.length_map, List.length_take, Array.length_toList]; omega
     have hsp : (splice (vals A) (0 + j.toNat * 1) (zerosC [.slice none 0 0] (P.size - j.toNat))).take j.toNat = (A.toList.take j.toNat).map (·.1) := by
      unfold splice vals
      rw [Nat.zero_add, Nat.mul_one, List.append_assoc, List.take_append_of_le_length (by rw [List.length_take, List.length_map, Array.length_toList]; omega), List.take_take, Nat.min_self, List.map_take]
     refine ⟨.inr rfl, _, (by simp only [Tryz.results19, resA, Tr.get_set, reduceIte, Nat.reduceEqDiff, Nat.reduceAdd] <;> rfl), And.intro (fun h => by cases h) (fun K2 r2 id2 Q2 hs2 hd2 => ?_)⟩
     simp only [List.cons.injEq, Value.slice.injEq, Option.some.injEq, Addr.mk.injEq, and_true, true_and] at hs2
     obtain ⟨rfl, hsz⟩ := hs2
     obtain ⟨h5, h6⟩ := hd.uniq hd2
     obtain rfl := h5.symm
     obtain rfl := h6.symm
     exact ⟨_, _, rfl, .inr ⟨id, 0, _, by rw [hlW]; rfl, .inr ⟨P.size - j.toNat, by rw [hlW]⟩, fun t' nx' wr' hk => by rw [hlW, <-hW]; exact l_valsN (A := A) ((oC.keep (hk _ (.inl rfl)) (hk _ (.inr rfl))).whole) hsp (by rw [splice_len (by rw [zerosC_len, List.length_singleton]; omega)]; omega)⟩, ⟨Nat.le_refl _, ozz, ozz, ozz, fun i q1 q2 => (kC i q2).trans (hGB.same i q1 q2)⟩⟩
   ·have p5 := g5; try simp only [dd] at p5
    refine s_skip (se_block (se_seq (s_region hP hC (oM ?_))))
    refine os (x_bin (u := .int .i64 (k + 1)) rfl za (by rfl) (by rw [b_add, IntWalk.i64_in _ ow])) ?_
    refine oA ?_
    refine o_done ?_
    refine se_loop ?_
    have hw1 : IntKind.i64.wrap (k + 1) = k + 1 := IntWalk.i64_in _ ow
    exact ⟨k + 1, ⟨_, st_wr ow, za, za, (by simp only [Tr.get_set, reduceIte, Nat.reduceEqDiff, Nat.reduceAdd, hw1, heA0, heA1, heA5, g4, g5] <;> rfl), by omega, by omega, by rw [cmp_new k0 (of_decide_eq_false g5), hE, take_one ow ow]⟩, by omega⟩
  ·have p4 := g4; try simp only [dd] at p4
   refine s_exit ?_
   refine se_seq_exit ?_
   refine se_loop_exit ?_
   refine se_block_eq (se_seq (s_seq (s_region hP hC (oM ?_))))
   refine oA ?_
   refine o_done (se_seq ?_)
   refine s_ret ?_
   have hPP : cmpP P P.size = P.toList := by
    rw [show k.toNat = P.size by omega] at hE
    rw [hE, <-Array.length_toList, List.take_length]
   have hlW : ((cmpP P P.size).map (·.1)).length = P.size := by rw [hPP, List.length_map, Array.length_toList]
   refine ⟨.inr rfl, _, (by simp only [Tryz.results19, resA, Tr.get_set, reduceIte, Nat.reduceEqDiff, Nat.reduceAdd] <;> rfl), And.intro (fun h => by cases h) (fun K2 r2 id2 Q2 hs2 hd2 => ?_)⟩
   simp only [List.cons.injEq, Value.slice.injEq, Option.some.injEq, Addr.mk.injEq, and_true, true_and] at hs2
   obtain ⟨rfl, hsz⟩ := hs2
   obtain ⟨h5, h6⟩ := hd.uniq hd2
   obtain rfl := h5.symm
   obtain rfl := h6.symm
   exact ⟨_, _, rfl, .inr ⟨id, 0, _, by rw [hlW]; rfl, .inr ⟨0, by rw [hlW]⟩, fun t' nx' wr' hk => by rw [hlW, hPP]; exact l_all ((hd.own.keep (hk _ (.inl rfl)) (hk _ (.inr rfl))).whole) (vals_len _).symm⟩, ⟨Nat.le_refl _, ozz, ozz, ozz, fun i q1 q2 => rfl⟩⟩
end Go.Proofs.YtmladpbadglecaaGreatDoor
