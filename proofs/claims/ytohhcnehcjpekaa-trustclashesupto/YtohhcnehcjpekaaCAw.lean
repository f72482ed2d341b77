/-
  Contracts: the agreed answers of the program.
-/
import Derived.Test.YtohhcnehcjpekaaCAp
namespace Go.Proofs.Ytohhcnehcjpekaa
open Go.AM
set_option maxRecDepth 100000
set_option maxHeartbeats 1000000
set_option linter.unusedSimpArgs false
set_option linter.unusedVariables false
theorem uncons {α : Type} {n : Nat} {l : List α} (h : l.length = n + 1) : ∃ a r, l = a :: r ∧ r.length = n := by
 match l, h with
 | a :: r, h => exact ⟨a, r, rfl, by simpa using h⟩
theorem build80v (a0 a1 a2 a3 a4 a5 a6 a7 a8 a9 a10 a11 a12 a13 a14 a15 a16 a17 a18 a19 a20 r0 r1 r2 r3 r4 r5 r6 r7 r8 r9 r10 r11 r12 r13 r14 r15 r16 r17 r18 r19 r20 r21 : Value) : quick Try.prog (Instr.build 80 ⟨[(0, .agg ⟨[a0, a1, a2, a3, a4, a5, a6, a7, a8, a9, a10, a11, a12, a13, a14, a15, a16, a17, a18, a19, a20]⟩), (1, .agg ⟨[r0, r1, r2, r3, r4, r5, r6, r7, r8, r9, r10, r11, r12, r13, r14, r15, r16, r17, r18, r19, r20, r21]⟩)]⟩) = some (.agg ⟨[a0, a1, a2, a3, a4, a5, a6, a7, a8, a9, a10, a11, a12, a13, a14, a15, a16, a17, a18, a19, a20, r0, r1, r2, r3, r4, r5, r6, r7, r8, r9, r10, r11, r12, r13, r14, r15, r16, r17, r18, r19, r20, r21]⟩) := by kernel_rfl
theorem build80 {a r : List Value} (ha : a.length = 21) (hr : r.length = 22) : quick Try.prog (Instr.build 80 ⟨[(0, .agg ⟨a⟩), (1, .agg ⟨r⟩)]⟩) = some (.agg ⟨a ++ r⟩) := by
 obtain ⟨a0, xa0, rfl, ha0⟩ := uncons ha
 obtain ⟨a1, xa1, rfl, ha1⟩ := uncons ha0
 obtain ⟨a2, xa2, rfl, ha2⟩ := uncons ha1
 obtain ⟨a3, xa3, rfl, ha3⟩ := uncons ha2
 obtain ⟨a4, xa4, rfl, ha4⟩ := uncons ha3
 obtain ⟨a5, xa5, rfl, ha5⟩ := uncons ha4
 obtain ⟨a6, xa6, rfl, ha6⟩ := uncons ha5
 obtain ⟨a7, xa7, rfl, ha7⟩ := uncons ha6
 obtain ⟨a8, xa8, rfl, ha8⟩ := uncons ha7
 obtain ⟨a9, xa9, rfl, ha9⟩ := uncons ha8
 obtain ⟨a10, xa10, rfl, ha10⟩ := uncons ha9
 obtain ⟨a11, xa11, rfl, ha11⟩ := uncons ha10
 obtain ⟨a12, xa12, rfl, ha12⟩ := uncons ha11
 obtain ⟨a13, xa13, rfl, ha13⟩ := uncons ha12
 obtain ⟨a14, xa14, rfl, ha14⟩ := uncons ha13
 obtain ⟨a15, xa15, rfl, ha15⟩ := uncons ha14
 obtain ⟨a16, xa16, rfl, ha16⟩ := uncons ha15
 obtain ⟨a17, xa17, rfl, ha17⟩ := uncons ha16
 obtain ⟨a18, xa18, rfl, ha18⟩ := uncons ha17
 obtain ⟨a19, xa19, rfl, ha19⟩ := uncons ha18
 obtain ⟨a20, xa20, rfl, ha20⟩ := uncons ha19
 have ea := List.eq_nil_of_length_eq_zero ha20
 subst ea
 obtain ⟨r0, xr0, rfl, hr0⟩ := uncons hr
 obtain ⟨r1, xr1, rfl, hr1⟩ := uncons hr0
 obtain ⟨r2, xr2, rfl, hr2⟩ := uncons hr1
 obtain ⟨r3, xr3, rfl, hr3⟩ := uncons hr2
 obtain ⟨r4, xr4, rfl, hr4⟩ := uncons hr3
 obtain ⟨r5, xr5, rfl, hr5⟩ := uncons hr4
 obtain ⟨r6, xr6, rfl, hr6⟩ := uncons hr5
 obtain ⟨r7, xr7, rfl, hr7⟩ := uncons hr6
 obtain ⟨r8, xr8, rfl, hr8⟩ := uncons hr7
 obtain ⟨r9, xr9, rfl, hr9⟩ := uncons hr8
 obtain ⟨r10, xr10, rfl, hr10⟩ := uncons hr9
 obtain ⟨r11, xr11, rfl, hr11⟩ := uncons hr10
 obtain ⟨r12, xr12, rfl, hr12⟩ := uncons hr11
 obtain ⟨r13, xr13, rfl, hr13⟩ := uncons hr12
 obtain ⟨r14, xr14, rfl, hr14⟩ := uncons hr13
 obtain ⟨r15, xr15, rfl, hr15⟩ := uncons hr14
 obtain ⟨r16, xr16, rfl, hr16⟩ := uncons hr15
 obtain ⟨r17, xr17, rfl, hr17⟩ := uncons hr16
 obtain ⟨r18, xr18, rfl, hr18⟩ := uncons hr17
 obtain ⟨r19, xr19, rfl, hr19⟩ := uncons hr18
 obtain ⟨r20, xr20, rfl, hr20⟩ := uncons hr19
 obtain ⟨r21, xr21, rfl, hr21⟩ := uncons hr20
 have er := List.eq_nil_of_length_eq_zero hr21
 subst er
 exact build80v _ _ _ _ _ _ _ _ _ _ _ _ _ _ _ _ _ _ _ _ _ _ _ _ _ _ _ _ _ _ _ _ _ _ _ _ _ _ _ _ _ _ _
structure AgH (L : List (List Value)) (F : Int) (y : List Value) (b : Nat) (t : Tr AObj) (nx : Nat) : Prop where
 t1 : t.get 1 = some (.row [.int .i64 F] 1 BIG false 1)
 t3 : t.get 3 = some (.row [.map (some 2)] 3 BIG false 1)
 tb : t.get b = some (.row y b BIG false y.length)
 hy : cf T.K43 y = true
 km : ∃ ks i, KM L i t nx ks ∧ (L.length : Int) ≤ i
 b4 : 4 ≤ b ∧ b < nx
 nb : nx + 10 ≤ BIG
def R35 (L : List (List Value)) (F : Int) (y : List Value) (b : Nat) (args : List Value) (h : AH) (v : Value) : Prop := ∃ k : Int, args = [.agg ⟨nth L k⟩, .pointer (some ⟨b, 0, none⟩), .pointer (some ⟨3, 0, none⟩), .pointer (some ⟨1, 0, none⟩)] ∧ 0 ≤ k ∧ k < L.length ∧ AgH L F y b h.t h.next ∧ v = .bool (agP L F y (nth L k))
theorem R35_hit {L : List (List Value)} {F : Int} {y : List Value} {b : Nat} {args : List Value} {h : AH} {v : Value} (hr : R35 L F y b args h v) : cRel (R35 L F y b) args h = some (v, h) := by
 refine cRel_hit hr fun v' h' => ?_
 obtain ⟨k, rfl, _, _, _, rfl⟩ := hr
 obtain ⟨k', e, _, _, _, rfl⟩ := h'
 injection e with e1 _
 injection e1 with e1
 injection e1 with e1
 rw [e1]
theorem clos35_m {L : List (List Value)} {F : Int} {y : List Value} {b : Nat} (hL : cfs T.K43 L) {args : List Value} {h : AH} {v : Value} (hr : R35 L F y b args h v) : Meets Try.prog (.func 35) args h v h := by
 obtain ⟨k, rfl, h0, h1, hA, rfl⟩ := hr
 have hP := Fits
 have hC : CallSound Try.prog (tabOf []) := tab_sound tab_end
 obtain ⟨t, nx, wr0⟩ := h
 obtain ⟨t1, t3, tb, hy, ⟨ks, i, km, hi⟩, ⟨b4, b5⟩, nb⟩ := hA
 have t1 : t.get 1 = _ := t1
 have t3 : t.get 3 = _ := t3
 have tb : t.get b = _ := tb
 have b5 : b < nx := b5
 have nb : nx + 10 ≤ BIG := nb
 have km : KM L i t nx ks := km
 have t2 := km.outer
 have hx := cf_nth hL h0 h1
 have kO := km.keyO
 obtain ⟨id, hl, hid, M, ck, hM, hg⟩ := km.final hL hi h0 h1
 generalize nth L k = x at *
 have hnB : nx ≤ BIG := by omega
 have hnB1 : nx + 1 ≤ BIG := by omega
 have kk := saidK_ok hx
 refine meets_quietK hP Try.func35 rfl rfl ?_
 show TriK Try.prog ⟨t, nx, BIG⟩ _ [] ⟨_, _, ⟨t, nx, BIG⟩⟩ _
 refine q_start (sz := 23) rfl zo ?_
 refine k_seq ?_
 refine k_region hP hC ?_
 refine os (y_boxA rfl zt) ?_
 refine os (x_assign rfl (by rfl)) ?_
 refine o_done ?_
 refine e_seq ?_
 refine k_seq ?_
 refine k_draw hP hC zr ?_
 refine ds (x_field (off' := 2) rfl zt Try.underlying43 rfl T.s37 rfl) ?_
 refine ds (x_loadA rfl zt T.g37 T.s37 (l_box (whole_row (by (repeat rw [Tr.get_set, if_neg (by omega)]); first | assumption | (rw [Tr.get_set, if_pos (by omega)]; done) | (rw [Tr.get_set, if_pos (by omega)]; rfl)) rfl) (by (first | assumption | (exact cf_nth (by assumption) (by omega) (by omega)))) (by decide))) ?_
 refine ds (x_field (off' := 2) rfl zt Try.underlying43 rfl T.s37 rfl) ?_
 refine ds (x_loadA rfl zt T.g37 T.s37 (l_box (whole_row (by (repeat rw [Tr.get_set, if_neg (by omega)]); first | assumption | (rw [Tr.get_set, if_pos (by omega)]; done) | (rw [Tr.get_set, if_pos (by omega)]; rfl)) rfl) (by (first | assumption | (exact cf_nth (by assumption) (by omega) (by omega)))) (by decide))) ?_
 refine ds (x_bin rfl zt zt (b_eqlA (by decide) T.f37 T.g37 T.q37 zc zc)) ?_
 refine ds (x_move rfl zt) ?_
 refine d_guard rfl rfl (by (repeat rw [Tr.get_set, if_neg (by omega)]); first | assumption | (rw [Tr.get_set, if_pos (by omega)]; done) | (rw [Tr.get_set, if_pos (by omega)]; rfl)) (fun g2 => ?_) (fun g2 => ?_)
 ·have p2 := g2; try simp only [d1, d2, d3, d4, d5, d6, d7, d8, d9] at p2
  refine d_step (wA_on rfl rfl (by simp only [Tr.get_set, reduceIte, Nat.reduceEqDiff, Nat.reduceAdd, g2] <;> rfl)) rfl (x_load1 rfl zt T.g78 (l_all (whole_row (by (repeat rw [Tr.get_set, if_neg (by omega)]); first | assumption | (rw [Tr.get_set, if_pos (by omega)]; done) | (rw [Tr.get_set, if_pos (by omega)]; rfl)) rfl) rfl)) (by decide) ?_
  refine d_step (wA_on rfl rfl (by simp only [Tr.get_set, reduceIte, Nat.reduceEqDiff, Nat.reduceAdd, g2] <;> rfl)) rfl (x_field (off' := 2) rfl zt Try.underlying43 rfl T.s37 rfl) (by decide) ?_
  refine d_step (wA_on rfl rfl (by simp only [Tr.get_set, reduceIte, Nat.reduceEqDiff, Nat.reduceAdd, g2] <;> rfl)) rfl (x_loadA rfl zt T.g37 T.s37 (l_box (whole_row (by (repeat rw [Tr.get_set, if_neg (by omega)]); first | assumption | (rw [Tr.get_set, if_pos (by omega)]; done) | (rw [Tr.get_set, if_pos (by omega)]; rfl)) rfl) (by (first | assumption | (exact cf_nth (by assumption) (by omega) (by omega)))) (by decide))) (by decide) ?_
  refine d_step (wA_on rfl rfl (by simp only [Tr.get_set, reduceIte, Nat.reduceEqDiff, Nat.reduceAdd, g2] <;> rfl)) rfl (x_field (off' := 23) rfl zt Try.underlying43 rfl T.s41 rfl) (by decide) ?_
  refine d_step (wA_on rfl rfl (by simp only [Tr.get_set, reduceIte, Nat.reduceEqDiff, Nat.reduceAdd, g2] <;> rfl)) rfl (x_loadA rfl zt T.g41 T.s41 (l_box (whole_row (by (repeat rw [Tr.get_set, if_neg (by omega)]); first | assumption | (rw [Tr.get_set, if_pos (by omega)]; done) | (rw [Tr.get_set, if_pos (by omega)]; rfl)) rfl) (by (first | assumption | (exact cf_nth (by assumption) (by omega) (by omega)))) (by decide))) (by decide) ?_
  refine d_step (wA_on rfl rfl (by simp only [Tr.get_set, reduceIte, Nat.reduceEqDiff, Nat.reduceAdd, g2] <;> rfl)) rfl (x_build rfl zp T.z80 rfl (build80 (cf_len (cf_part (ks := T.K43) 2 21 hx rfl)) (cf_len (cf_part (ks := T.K43) 23 22 hx rfl)))) (by decide) ?_
  refine d_step (wA_on rfl rfl (by simp only [Tr.get_set, reduceIte, Nat.reduceEqDiff, Nat.reduceAdd, g2] <;> rfl)) rfl (y_lookYes (M := outM ks) (k := saidK x) rfl zt zt Try.underlying78 Try.underlying80 (by decide) T.f80 kk kO T.z81 rfl (by (repeat rw [Tr.get_set, if_neg (by omega)]); first | assumption | (rw [Tr.get_set, if_pos (by omega)]; done) | (rw [Tr.get_set, if_pos (by omega)]; rfl)) hl) (by decide) ?_
  refine d_step (wA_on rfl rfl (by simp only [Tr.get_set, reduceIte, Nat.reduceEqDiff, Nat.reduceAdd, g2] <;> rfl)) rfl (x_lenM rfl rfl zv rfl Try.underlying81 (by first | exact hM | (show Tr.get _ _ = _; (repeat rw [Tr.get_set, if_neg (by omega)]); first | assumption | (rw [Tr.get_set, if_pos (by omega)]; done) | (rw [Tr.get_set, if_pos (by omega)]; rfl)))) (by decide) ?_
  refine d_step (wA_on rfl rfl (by simp only [Tr.get_set, reduceIte, Nat.reduceEqDiff, Nat.reduceAdd, g2] <;> rfl)) rfl (x_load1 rfl zt T.g3 (l_all (whole_row (by (repeat rw [Tr.get_set, if_neg (by omega)]); first | assumption | (rw [Tr.get_set, if_pos (by omega)]; done) | (rw [Tr.get_set, if_pos (by omega)]; rfl)) rfl) rfl)) (by decide) ?_
  refine d_step (wA_on rfl rfl (by simp only [Tr.get_set, reduceIte, Nat.reduceEqDiff, Nat.reduceAdd, g2] <;> rfl)) rfl (x_bin rfl zt zt b_gtr) (by decide) ?_
  refine ds (x_pick rfl (by simp only [Tr.get_set, reduceIte, Nat.reduceEqDiff, Nat.reduceAdd, ev_tmp, g2] <;> rfl) (by simp only [if_true, if_false, Bool.false_eq_true, ev_tmp, Tr.get_set, reduceIte, Nat.reduceEqDiff, Nat.reduceAdd, g2]; rfl)) ?_
  refine ds (x_assign rfl zt) ?_
  refine d_done ⟨de_quiet (by simp only [List.all_append, List.all_cons, List.all_nil, infOf, decide_eq_true hnB1, Bool.and_self]) (by show nx + 1 ≤ BIG; omega) (by show _ ≤ BIG; first | omega | (dsimp only; omega)), ?_⟩
  refine e_seq ?_
  refine k_ret ?_
  refine ⟨.inr rfl, ⟨_, (by simp only [Try.results35, resA, Tr.get_set, reduceIte, Nat.reduceEqDiff, Nat.reduceAdd] <;> rfl), ?_⟩, Nat.ble_eq_true_of_le (by show nx ≤ _; first | omega | (dsimp only; omega))⟩
  show Value.bool _ = .bool (eqCs (askC x) (askC y) && decide (F < giversN L x))
  first | rw [show eqCs (askC x) (askC y) = true from g2, hg, Bool.true_and] | rw [show eqCs (askC x) (askC y) = false from g2, Bool.false_and]
 ·have p2 := g2; try simp only [d1, d2, d3, d4, d5, d6, d7, d8, d9] at p2
  refine d_skip (wA_off rfl rfl (by simp only [Tr.get_set, reduceIte, Nat.reduceEqDiff, Nat.reduceAdd, g2] <;> rfl)) rfl (by decide) ?_
  refine d_skip (wA_off rfl rfl (by simp only [Tr.get_set, reduceIte, Nat.reduceEqDiff, Nat.reduceAdd, g2] <;> rfl)) rfl (by decide) ?_
  refine d_skip (wA_off rfl rfl (by simp only [Tr.get_set, reduceIte, Nat.reduceEqDiff, Nat.reduceAdd, g2] <;> rfl)) rfl (by decide) ?_
  refine d_skip (wA_off rfl rfl (by simp only [Tr.get_set, reduceIte, Nat.reduceEqDiff, Nat.reduceAdd, g2] <;> rfl)) rfl (by decide) ?_
  refine d_skip (wA_off rfl rfl (by simp only [Tr.get_set, reduceIte, Nat.reduceEqDiff, Nat.reduceAdd, g2] <;> rfl)) rfl (by decide) ?_
  refine d_skip (wA_off rfl rfl (by simp only [Tr.get_set, reduceIte, Nat.reduceEqDiff, Nat.reduceAdd, g2] <;> rfl)) rfl (by decide) ?_
  refine d_skip (wA_off rfl rfl (by simp only [Tr.get_set, reduceIte, Nat.reduceEqDiff, Nat.reduceAdd, g2] <;> rfl)) rfl (by decide) ?_
  refine d_skip (wA_off rfl rfl (by simp only [Tr.get_set, reduceIte, Nat.reduceEqDiff, Nat.reduceAdd, g2] <;> rfl)) rfl (by decide) ?_
  refine d_skip (wA_off rfl rfl (by simp only [Tr.get_set, reduceIte, Nat.reduceEqDiff, Nat.reduceAdd, g2] <;> rfl)) rfl (by decide) ?_
  refine d_skip (wA_off rfl rfl (by simp only [Tr.get_set, reduceIte, Nat.reduceEqDiff, Nat.reduceAdd, g2] <;> rfl)) rfl (by decide) ?_
  refine ds (x_pick rfl (by simp only [Tr.get_set, reduceIte, Nat.reduceEqDiff, Nat.reduceAdd, ev_tmp, g2] <;> rfl) (by simp only [if_true, if_false, Bool.false_eq_true, ev_tmp, Tr.get_set, reduceIte, Nat.reduceEqDiff, Nat.reduceAdd, g2]; rfl)) ?_
  refine ds (x_assign rfl zt) ?_
  refine d_done ⟨de_quiet (by simp only [List.all_append, List.all_cons, List.all_nil, infOf, decide_eq_true hnB1, Bool.and_self]) (by show nx + 1 ≤ BIG; omega) (by show _ ≤ BIG; first | omega | (dsimp only; omega)), ?_⟩
  refine e_seq ?_
  refine k_ret ?_
  refine ⟨.inr rfl, ⟨_, (by simp only [Try.results35, resA, Tr.get_set, reduceIte, Nat.reduceEqDiff, Nat.reduceAdd] <;> rfl), ?_⟩, Nat.ble_eq_true_of_le (by show nx ≤ _; first | omega | (dsimp only; omega))⟩
  show Value.bool _ = .bool (eqCs (askC x) (askC y) && decide (F < giversN L x))
  first | rw [show eqCs (askC x) (askC y) = true from g2, hg, Bool.true_and] | rw [show eqCs (askC x) (askC y) = false from g2, Bool.false_and]
structure R36 (L : List (List Value)) (F : Int) (args : List Value) (h : AH) (v : Value) : Prop where
 ex : ∃ (s : Value) (y : List Value) (b : Nat), args = [s, .func (.func 35) ⟨[]⟩ ⟨[.pointer (some ⟨b, 0, none⟩), .pointer (some ⟨3, 0, none⟩), .pointer (some ⟨1, 0, none⟩)]⟩] ∧ Sl 0 46 L.length s ∧ h.t.get 0 = some (.row L.flatten 0 BIG true L.flatten.length) ∧ AgH L F y b h.t h.next ∧ v = .int .i64 (idxP (agP L F y) L)
theorem R36_hit {L : List (List Value)} {F : Int} {args : List Value} {h : AH} {v : Value} (hr : R36 L F args h v) : cRel (R36 L F) args h = some (v, h) := by
 refine cRel_hit hr fun v' h' => ?_
 obtain ⟨s, y, b, rfl, _, _, hA, rfl⟩ := hr.ex
 obtain ⟨s', y', b', e, _, _, hA', rfl⟩ := h'.ex
 injection e with _ e1
 injection e1 with e1 _
 injection e1 with _ _ e1
 injection e1 with e1
 injection e1 with e1 _
 injection e1 with e1
 injection e1 with e1
 injection e1 with e1 _ _
 subst e1
 have q := hA.tb.symm.trans hA'.tb
 injection q with q
 injection q with q
 subst q
 rfl
theorem idx36_m {L : List (List Value)} {F : Int} (hb : L.length ≤ 1000) (hL : cfs T.K43 L) {args : List Value} {h : AH} {v : Value} (hr : R36 L F args h v) : Meets Try.prog (.func 36) args h v h := by
 obtain ⟨s_L, y, b, rfl, hs_L, t0, hA, rfl⟩ := hr.ex
 have hP := Fits
 have hC : CallSound Try.prog (tabOf [(35, cRel (R35 L F y b))]) := tab_sound (tab_cons (con_rel Try.func35 rfl fun _ _ _ hr => clos35_m hL hr) tab_end)
 obtain ⟨t, nx, wr0⟩ := h
 have t0 : t.get 0 = _ := t0
 have hA : AgH L F y b t nx := hA
 have hnB : nx ≤ BIG := by have := hA.nb; omega
 refine meets_quietK hP Try.func36 rfl rfl ?_
 show TriK Try.prog ⟨t, nx, BIG⟩ _ [] ⟨_, _, ⟨t, nx, BIG⟩⟩ _
 refine q_start (sz := 19) rfl zo ?_
 refine k_seq ?_
 refine k_region hP hC ?_
 refine os (x_assign rfl (by rfl)) ?_
 refine o_done ?_
 refine e_seq ?_
 refine k_seq ?_
 refine k_seq ?_
 refine k_region hP hC ?_
 refine os (x_move rfl zt) ?_
 refine os (x_lenS hs_L rfl rfl zv rfl Try.underlying23) ?_
 refine os (x_move rfl (by rfl)) ?_
 refine o_done ?_
 refine e_seq ?_
 refine k_block ?_
 refine k_loopI (α := Int) (fun i s => ∃ e, s = ⟨e, 19, ⟨t, nx, BIG⟩⟩ ∧ e.get 0 = some s_L ∧ e.get 1 = some (.func (.func 35) ⟨[]⟩ ⟨[.pointer (some ⟨b, 0, none⟩), .pointer (some ⟨3, 0, none⟩), .pointer (some ⟨1, 0, none⟩)]⟩) ∧ e.get 7 = some (.int .i64 L.length) ∧ e.get 8 = some (.int .i64 i) ∧ 0 ≤ i ∧ i ≤ L.length ∧ (L.take i.toNat).all (fun a => !agP L F y a) = true) (fun i => (L.length - i).toNat) 0 ⟨_, rfl, (by (repeat rw [Tr.get_set, if_neg (by omega)]); first | assumption | (rw [Tr.get_set, if_pos (by omega)]; done) | (rw [Tr.get_set, if_pos (by omega)]; rfl)), (by (repeat rw [Tr.get_set, if_neg (by omega)]); first | assumption | (rw [Tr.get_set, if_pos (by omega)]; done) | (rw [Tr.get_set, if_pos (by omega)]; rfl)), (by (repeat rw [Tr.get_set, if_neg (by omega)]); first | assumption | (rw [Tr.get_set, if_pos (by omega)]; done) | (rw [Tr.get_set, if_pos (by omega)]; rfl)), (by (repeat rw [Tr.get_set, if_neg (by omega)]); first | assumption | (rw [Tr.get_set, if_pos (by omega)]; done) | (rw [Tr.get_set, if_pos (by omega)]; rfl)), by omega, by omega, by simp⟩ ?_
 rintro i s ⟨e, rfl, he0, he1, he7, he8, h0, h1, h2⟩
 refine k_seq ?_
 refine k_region hP hC ?_
 refine os (x_bin rfl za za b_lss) ?_
 refine o_done ?_
 refine e_seq ?_
 refine k_seq ?_
 refine k_cond (by simp only [Tr.get_set, reduceIte, Nat.reduceEqDiff, Nat.reduceAdd, ev_tmp, he0, he1, he7, he8] <;> rfl) (fun g2 => ?_) (fun g2 => ?_)
 ·have p2 := g2; try simp only [d1, d2, d3, d4, d5, d6, d7, d8, d9] at p2
  refine k_skip ?_
  refine e_seq ?_
  refine k_seq ?_
  refine k_block ?_
  refine k_seq ?_
  refine k_region hP hC ?_
  refine os (x_move rfl za) ?_
  refine os (x_assign rfl za) ?_
  refine o_done ?_
  refine e_seq ?_
  refine k_seq ?_
  refine k_region hP hC ?_
  refine os (x_move rfl za) ?_
  refine os (x_move rfl za) ?_
  refine os (x_move rfl za) ?_
  refine os (x_indexS hs_L rfl za za Try.underlying23 T.s43 (by omega) (by omega)) ?_
  refine os (x_loadA rfl za T.g43 T.s43 (l_elem (whole_row (by (repeat rw [Tr.get_set, if_neg (by omega)]); first | assumption | (rw [Tr.get_set, if_pos (by omega)]; done) | (rw [Tr.get_set, if_pos (by omega)]; rfl)) rfl) (by assumption) rfl (by omega) (by omega))) ?_
  refine o_callC (wA_none rfl) rfl rfl rfl za (by simp only [evs, ev_tmp, Tr.get_set, reduceIte, Nat.reduceEqDiff, Nat.reduceAdd, he0, he1, he7, he8, g2] <;> rfl) (by decide) ?_
  refine ⟨_, _, (tab_hit.trans (R35_hit ⟨i, rfl, by omega, by omega, hA, rfl⟩)), ?_⟩
  refine o_done ?_
  refine e_seq ?_
  refine k_cond (by simp only [Tr.get_set, reduceIte, Nat.reduceEqDiff, Nat.reduceAdd, ev_tmp, g2] <;> rfl) (fun g4 => ?_) (fun g4 => ?_)
  ·have p4 := g4; try simp only [d1, d2, d3, d4, d5, d6, d7, d8, d9] at p4
   refine k_seq ?_
   refine k_region hP hC ?_
   refine os (x_move rfl za) ?_
   refine os (x_assign rfl za) ?_
   refine o_done ?_
   refine e_seq ?_
   refine k_ret ?_
   refine e_block_ret ?_
   refine e_seq_ret ?_
   refine e_loop_ret ?_
   refine e_block_ret ?_
   refine e_seq_ret ?_
   refine ⟨.inr rfl, ⟨_, (by simp only [Try.results36, resA, Tr.get_set, reduceIte, Nat.reduceEqDiff, Nat.reduceAdd] <;> rfl), ?_⟩, Nat.ble_eq_true_of_le (by show nx ≤ _; first | omega | (dsimp only; omega))⟩
   show Value.int _ _ = _; first | rw [idxP_here h0 (by omega) h2 (by assumption)] | rw [idxP_none (all_end (by omega) h2)]
  ·have p4 := g4; try simp only [d1, d2, d3, d4, d5, d6, d7, d8, d9] at p4
   refine k_skip ?_
   refine e_block ?_
   refine e_seq ?_
   refine k_region hP hC ?_
   refine os (x_bin rfl za (by rfl) b_add) ?_
   refine os (x_move rfl za) ?_
   refine o_done ?_
   refine e_loop ?_
   refine ⟨IntKind.i64.wrap (i + 1), ⟨_, rfl, za, za, za, za, ?_⟩, ?_⟩
   ·rw [wr1 (by omega) (by omega)]; exact ⟨by omega, by omega, all_next (by omega) (by omega) h2 (by simpa using g4)⟩
   ·rw [wr1 (by omega) (by omega)]; omega
 ·have p2 := g2; try simp only [d1, d2, d3, d4, d5, d6, d7, d8, d9] at p2
  refine k_exit ?_
  refine e_seq_exit ?_
  refine e_loop_exit ?_
  refine e_block_eq ?_
  refine e_seq ?_
  refine k_seq ?_
  refine k_region hP hC ?_
  refine os (x_assign rfl (by rfl)) ?_
  refine o_done ?_
  refine e_seq ?_
  refine k_ret ?_
  refine ⟨.inr rfl, ⟨_, (by simp only [Try.results36, resA, Tr.get_set, reduceIte, Nat.reduceEqDiff, Nat.reduceAdd] <;> rfl), ?_⟩, Nat.ble_eq_true_of_le (by show nx ≤ _; first | omega | (dsimp only; omega))⟩
  show Value.int _ _ = _; first | rw [idxP_here h0 (by omega) h2 (by assumption)] | rw [idxP_none (all_end (by omega) h2)]
structure J1 (L : List (List Value)) (F : Int) (s_L : Value) (i : Int) (ks : List (List Value × Nat)) (e : Tr Value) (t : Tr AObj) (nx wr : Nat) : Prop where
 e0 : e.get 0 = some s_L
 e3 : e.get 3 = some (.pointer (some ⟨1, 0, none⟩))
 e5 : e.get 5 = some (.pointer (some ⟨3, 0, none⟩))
 e16 : e.get 16 = some s_L
 e17 : e.get 17 = some (.int .i64 L.length)
 e18 : e.get 18 = some (.int .i64 i)
 t0 : t.get 0 = some (.row L.flatten 0 BIG true L.flatten.length)
 t1 : t.get 1 = some (.row [.int .i64 F] 1 BIG false 1)
 t3 : t.get 3 = some (.row [.map (some 2)] 3 BIG false 1)
 km : KM L i t nx ks
 i0 : 0 ≤ i
 i1 : i ≤ L.length
 n4 : 4 ≤ nx
 nb : (nx : Int) ≤ 4 + 3 * i
 w1 : 1 ≤ wr
 wb : wr ≤ BIG
def AccO (t : Tr AObj) (n1 m9 nx : Nat) (acc : List (List Value)) (v : Value) : Prop := (acc = [] ∧ v = .slice none 0 0) ∨ (0 < acc.length ∧ ∃ id r, v = .slice (some ⟨id, 0, none⟩) acc.length (acc.length + 46) ∧ OwnR t r id acc.flatten ∧ r ≠ m9 ∧ id ≠ m9 ∧ n1 ≤ r ∧ n1 ≤ id ∧ r < nx ∧ id < nx)
structure J2 (L : List (List Value)) (F : Int) (s_L : Value) (n1 m9 : Nat) (ks : List (List Value × Nat)) (i : Int) (v : Value) (e : Tr Value) (t : Tr AObj) (nx wr : Nat) : Prop where
 e0 : e.get 0 = some s_L
 e3 : e.get 3 = some (.pointer (some ⟨1, 0, none⟩))
 e5 : e.get 5 = some (.pointer (some ⟨3, 0, none⟩))
 e9 : e.get 9 = some (.map (some m9))
 e10 : e.get 10 = some v
 e41 : e.get 41 = some s_L
 e42 : e.get 42 = some (.int .i64 L.length)
 e43 : e.get 43 = some (.int .i64 i)
 t0 : t.get 0 = some (.row L.flatten 0 BIG true L.flatten.length)
 t1 : t.get 1 = some (.row [.int .i64 F] 1 BIG false 1)
 t3 : t.get 3 = some (.row [.map (some 2)] 3 BIG false 1)
 t9 : t.get m9 = some (.map (ents 0 (doneM L i.toNat)) (doneM L i.toNat).length)
 km : KM L L.length t n1 ks
 acc : AccO t n1 m9 nx (agO L F i) v
 i0 : 0 ≤ i
 i1 : i ≤ L.length
 n4 : 4 ≤ n1
 nm : n1 ≤ m9
 nn : m9 < nx
 nb : (nx : Int) ≤ 5 + 3 * L.length + 3 * i
 w1 : 1 ≤ wr
 wb : wr ≤ BIG
theorem AccO.keep {t t' : Tr AObj} {n1 m9 nx nx' : Nat} {acc : List (List Value)} {v : Value} (h : AccO t n1 m9 nx acc v) (hn : nx ≤ nx') (hk : ∀ id, n1 ≤ id → id < nx → id ≠ m9 → t'.get id = t.get id) : AccO t' n1 m9 nx' acc v := by
 rcases h with h | ⟨h0, id, r, h1, h2, h3, h4, h5, h6, h7, h8⟩
 ·exact .inl h
 ·exact .inr ⟨h0, id, r, h1, h2.keep (hk id h6 h8 h4) (hk r h5 h7 h3), h3, h4, h5, h6, by omega, by omega⟩
theorem done_skip {L : List (List Value)} {i : Int} (h0 : 0 ≤ i) (hf : agFirst L i i = false) : doneM L (i + 1).toNat = doneM L i.toNat := by
 rw [show (i + 1).toNat = i.toNat + 1 by omega, doneM_next, Int.toNat_of_nonneg h0, hf]
 simp
theorem done_new {L : List (List Value)} {i : Int} (h0 : 0 ≤ i) (hf : agFirst L i i = true) : doneM L (i + 1).toNat = doneM L i.toNat ++ [(Value.agg ⟨askC (nth L i)⟩, Value.bool true)] := by
 rw [show (i + 1).toNat = i.toNat + 1 by omega, doneM_next, Int.toNat_of_nonneg h0, hf]
 simp
theorem agO_cfs {L : List (List Value)} {F i : Int} (h : cfs T.K43 L) : cfs T.K43 (agO L F i) := by
 intro a ha
 obtain ⟨j, _, hj⟩ := List.mem_flatMap.1 ha
 exact agI_cfs h a hj
theorem inM_append {ws : List Int} {w : Int} : inM (ws ++ [w]) = inM ws ++ [(.int .i64 w, .bool true)] := by
 unfold inM
 rw [List.map_append]; rfl
theorem T3f : flatTy Try.prog 20 3 = some [.int .i64] := by kernel_rfl
def ok_agreed (L : List (List Value)) (F : Int) : Bool := decide (L.length ≤ 1000)
def val_agreed (L : List (List Value)) (F : Int) : Value := outV 1 46 (agreedL L F).length
def new_agreed (L : List (List Value)) (F : Int) : List (List Value) := outN (agreedL L F).length (agreedL L F).flatten
def spec_agreed : Go.AM.Spec := fun us cs => match us, cs with
 | [s_L, .int .i64 F], [c_L] => if slOk 0 46 c_L s_L && isRows T.K43 c_L && ok_agreed (chunks 46 c_L) F then some (val_agreed (chunks 46 c_L) F, new_agreed (chunks 46 c_L) F) else none
 | _, _ => none
def c_agreed := flatC [.sl 46, .fr] spec_agreed
theorem agreed_m {s_L : Value} {L : List (List Value)} {F : Int} (hs_L : Sl 0 46 L.length s_L) (h_L : cfs T.K43 L) (hok : ok_agreed L F = true) : Meets Try.prog (.func 16) [s_L, .int .i64 F] (cheap [L.flatten]) (val_agreed L F) (rheap [L.flatten] (new_agreed L F)) := by
 have hP := Fits
 have hC : CallSound Try.prog (tabOf []) := tab_sound tab_end
 simp only [ok_agreed, Bool.and_eq_true, decide_eq_true_eq] at hok
 have hb := hok
 have hL := h_L
 have hC : CallSound Try.prog (tabOf [(36, cRel (R36 L F))]) := tab_sound (tab_cons (con_rel Try.func36 rfl fun _ _ _ hr => idx36_m hb hL hr) tab_end)
 refine meets_start (sz := 69) hP Try.func16 rfl rfl zo (by simp only [Tr.ofList, roRows, Nat.zero_add, Nat.reduceAdd] <;> rfl) zl ?_
 refine k_seq ?_
 refine k_region hP hC ?_
 refine os (y_box1 rfl zt rfl) ?_
 refine os (x_assign rfl (by rfl)) ?_
 refine o_done ?_
 refine e_seq ?_
 refine k_seq ?_
 refine k_region hP hC ?_
 refine os (y_makeMap rfl) ?_
 refine os (y_alloc rfl T.z78 rfl rfl) ?_
 refine o_stepN (wA_none rfl) rfl (y_store1 rfl zt zt rfl T.s78 zh rfl rfl rfl) ?_
 refine o_done ?_
 refine e_seq ?_
 refine k_seq ?_
 refine k_seq ?_
 refine k_region hP hC ?_
 refine os (x_move rfl zt) ?_
 refine os (x_lenS hs_L rfl rfl zv rfl Try.underlying23) ?_
 refine os (x_move rfl (by rfl)) ?_
 refine o_done ?_
 refine e_seq ?_
 refine k_block ?_
 refine k_loopI (α := Int × List (List Value × Nat)) (fun z s => ∃ e t nx wr, s = ⟨e, 69, ⟨t, nx, wr⟩⟩ ∧ J1 L F s_L z.1 z.2 e t nx wr) (fun z => (L.length - z.1).toNat) (0, []) ⟨_, _, _, _, rfl, ⟨zh, zh, zh, zh, zh, zh, by simp only [Tr.get_set, reduceIte, Nat.reduceEqDiff, Nat.reduceAdd] <;> rfl, by simp only [Tr.get_set, reduceIte, Nat.reduceEqDiff, Nat.reduceAdd] <;> rfl, by simp only [Tr.get_set, reduceIte, Nat.reduceEqDiff, Nat.reduceAdd] <;> rfl, KM.start zh, by decide, by omega, by decide, by decide, by decide, by decide⟩⟩ ?_
 rintro ⟨i, ks⟩ s ⟨e, t, nx, wr, rfl, ⟨he0, he3, he5, he16, he17, he18, t0, t1, t3, km, h0, h1, n4, nb, w1, wb⟩⟩
 have he18 : e.get 18 = some (.int .i64 i) := he18
 have km : KM L i t nx ks := km
 have h0 : 0 ≤ i := h0
 have h1 : i ≤ L.length := h1
 have nb : (nx : Int) ≤ 4 + 3 * i := nb
 have t2 := km.outer
 have kO := km.keyO
 have hnB : nx ≤ BIG := by unfold BIG; omega
 have hnB1 : nx + 1 + 1 + 1 ≤ BIG := by unfold BIG; omega
 have hnB2 : nx + 1 + 1 ≤ BIG := by unfold BIG; omega
 refine k_seq ?_
 refine k_region hP hC ?_
 refine os (x_bin rfl za za b_lss) ?_
 refine o_done ?_
 refine e_seq ?_
 refine k_seq ?_
 refine k_cond (by simp only [Tr.get_set, reduceIte, Nat.reduceEqDiff, Nat.reduceAdd, ev_tmp, he0, he3, he5, he16, he17, he18] <;> rfl) (fun g2 => ?_) (fun g2 => ?_)
 ·have p2 := g2; try simp only [d1, d2, d3, d4, d5, d6, d7, d8, d9] at p2
  refine k_skip ?_
  refine e_seq ?_
  refine k_seq ?_
  refine k_block ?_
  refine k_seq ?_
  have hx := cf_nth hL h0 (show i < L.length by omega)
  have kk := saidK_ok hx
  have k80 : cf T.K80 (((nth L i).drop 2).take 21 ++ ((nth L i).drop 23).take 22) = true := kk.2
  refine k_region hP hC ?_
  refine os (x_indexS hs_L rfl za za Try.underlying23 T.s43 (by omega) (by omega)) ?_
  refine os (x_loadA rfl za T.g43 T.s43 (l_elem (whole_row (by (repeat rw [Tr.get_set, if_neg (by omega)]); first | assumption | (rw [Tr.get_set, if_pos (by omega)]; done) | (rw [Tr.get_set, if_pos (by omega)]; rfl)) rfl) (by assumption) rfl (by omega) (by omega))) ?_
  refine os (y_alloc rfl T.z43 rfl rfl) ?_
  refine o_stepN (wA_none rfl) rfl (y_storeA rfl za za T.s43 (cf_len (ks := T.K43) zc) (by (repeat rw [Tr.get_set, if_neg (by omega)]); first | assumption | (rw [Tr.get_set, if_pos (by omega)]; done) | (rw [Tr.get_set, if_pos (by omega)]; rfl)) rfl rfl (cf_oneC (ks := T.K43) zc)) ?_
  refine o_done ?_
  refine e_seq ?_
  refine k_seq ?_
  refine k_region hP hC ?_
  refine os (x_field (off' := 2) rfl za Try.underlying43 rfl T.s37 rfl) ?_
  refine os (x_loadA rfl za T.g37 T.s37 (l_box (whole_row (by (repeat rw [Tr.get_set, if_neg (by omega)]); first | assumption | (rw [Tr.get_set, if_pos (by omega)]; done) | (rw [Tr.get_set, if_pos (by omega)]; rfl)) rfl) (by (first | assumption | (exact cf_nth (by assumption) (by omega) (by omega)))) (by decide))) ?_
  refine os (x_field (off' := 23) rfl za Try.underlying43 rfl T.s41 rfl) ?_
  refine os (x_loadA rfl za T.g41 T.s41 (l_box (whole_row (by (repeat rw [Tr.get_set, if_neg (by omega)]); first | assumption | (rw [Tr.get_set, if_pos (by omega)]; done) | (rw [Tr.get_set, if_pos (by omega)]; rfl)) rfl) (by (first | assumption | (exact cf_nth (by assumption) (by omega) (by omega)))) (by decide))) ?_
  refine os (x_build rfl zp T.z80 rfl (build80 (cf_len (cf_part (ks := T.K43) 2 21 hx rfl)) (cf_len (cf_part (ks := T.K43) 23 22 hx rfl)))) ?_
  refine os (y_alloc rfl T.z80 rfl rfl) ?_
  refine o_stepN (wA_none rfl) rfl (y_storeA rfl za za T.s80 (cf_len (ks := T.K80) zc) (by (repeat rw [Tr.get_set, if_neg (by omega)]); first | assumption | (rw [Tr.get_set, if_pos (by omega)]; done) | (rw [Tr.get_set, if_pos (by omega)]; rfl)) rfl rfl (cf_oneC (ks := T.K80) zc)) ?_
  refine o_done ?_
  refine e_seq ?_
  refine k_seq ?_
  refine k_seq ?_
  rcases km.look hx with ⟨hl, hn⟩ | ⟨e0, he, hs, hl⟩
  ·skip
   refine k_region hP hC ?_
   refine os (x_load1 rfl za T.g78 (l_all (whole_row (by (repeat rw [Tr.get_set, if_neg (by omega)]); first | assumption | (rw [Tr.get_set, if_pos (by omega)]; done) | (rw [Tr.get_set, if_pos (by omega)]; rfl)) rfl) rfl)) ?_
   refine os (x_loadA rfl za T.g80 T.s80 (l_boxAll (whole_row (by (repeat rw [Tr.get_set, if_neg (by omega)]); first | assumption | (rw [Tr.get_set, if_pos (by omega)]; done) | (rw [Tr.get_set, if_pos (by omega)]; rfl)) rfl) (by (first | assumption | (exact cf_nth (by assumption) (by omega) (by omega)))) rfl)) ?_
   refine os (y_lookNo (M := outM ks) (k := saidK (nth L i)) rfl za za Try.underlying78 Try.underlying80 (by decide) T.f80 kk kO T.z81 rfl (by (repeat rw [Tr.get_set, if_neg (by omega)]); first | assumption | (rw [Tr.get_set, if_pos (by omega)]; done) | (rw [Tr.get_set, if_pos (by omega)]; rfl)) hl) ?_
   refine os (x_bin (u := .bool true) rfl za (by rfl) (by rfl)) ?_
   refine o_done ?_
   refine e_seq ?_
   refine k_condT (by simp only [Tr.get_set, reduceIte, Nat.reduceEqDiff, Nat.reduceAdd, ev_tmp, g2] <;> rfl) ?_
   refine k_region hP hC ?_
   refine os (x_load1 rfl za T.g78 (l_all (whole_row (by (repeat rw [Tr.get_set, if_neg (by omega)]); first | assumption | (rw [Tr.get_set, if_pos (by omega)]; done) | (rw [Tr.get_set, if_pos (by omega)]; rfl)) rfl) rfl)) ?_
   refine os (x_loadA rfl za T.g80 T.s80 (l_boxAll (whole_row (by (repeat rw [Tr.get_set, if_neg (by omega)]); first | assumption | (rw [Tr.get_set, if_pos (by omega)]; done) | (rw [Tr.get_set, if_pos (by omega)]; rfl)) rfl) (by (first | assumption | (exact cf_nth (by assumption) (by omega) (by omega)))) rfl)) ?_
   refine os (y_makeMap rfl) ?_
   refine o_stepN (wA_none rfl) rfl (y_mapNew (M := outM ks) (k := saidK (nth L i)) rfl za za za Try.underlying78 Try.underlying80 (by decide) T.f80 kk kO (by (repeat rw [Tr.get_set, if_neg (by omega)]); first | assumption | (rw [Tr.get_set, if_pos (by omega)]; done) | (rw [Tr.get_set, if_pos (by omega)]; rfl)) hl) ?_
   refine o_done ?_
   refine e_seq ?_
   refine k_draw hP hC zr ?_
   refine ds (x_load1 rfl za T.g78 (l_all (whole_row (by (repeat rw [Tr.get_set, if_neg (by omega)]); first | assumption | (rw [Tr.get_set, if_pos (by omega)]; done) | (rw [Tr.get_set, if_pos (by omega)]; rfl)) rfl) rfl)) ?_
   refine ds (x_loadA rfl za T.g80 T.s80 (l_boxAll (whole_row (by (repeat rw [Tr.get_set, if_neg (by omega)]); first | assumption | (rw [Tr.get_set, if_pos (by omega)]; done) | (rw [Tr.get_set, if_pos (by omega)]; rfl)) rfl) (by (first | assumption | (exact cf_nth (by assumption) (by omega) (by omega)))) rfl)) ?_
   refine ds (y_lookYes (M := outM ks ++ [(saidK (nth L i), Value.map (some (nx + 1 + 1)))]) (k := saidK (nth L i)) rfl za za Try.underlying78 Try.underlying80 (by decide) T.f80 kk (by intro p hp; rcases List.mem_append.1 hp with hp | hp; exact kO p hp; rw [List.mem_singleton.1 hp]; exact kk) T.z81 rfl (by (repeat rw [Tr.get_set, if_neg (by omega)]); first | assumption | (rw [Tr.get_set, if_pos (by omega)]; done) | (rw [Tr.get_set, if_pos (by omega)]; rfl)) (look_new hl (eqCs_same kk.2))) ?_
   refine ds (x_field (off' := 0) rfl za Try.underlying43 rfl T.s3 rfl) ?_
   refine ds (x_load1 rfl za T.g3 (by first | exact l_boxI (whole_row (by (repeat rw [Tr.get_set, if_neg (by omega)]); first | assumption | (rw [Tr.get_set, if_pos (by omega)]; done) | (rw [Tr.get_set, if_pos (by omega)]; rfl)) rfl) (by (first | assumption | (exact cf_nth (by assumption) (by omega) (by omega)))) rfl | exact l_boxS (whole_row (by (repeat rw [Tr.get_set, if_neg (by omega)]); first | assumption | (rw [Tr.get_set, if_pos (by omega)]; done) | (rw [Tr.get_set, if_pos (by omega)]; rfl)) rfl) (by (first | assumption | (exact cf_nth (by assumption) (by omega) (by omega)))) rfl | (simp only [loadC, AH.fam, Tr.get_set, reduceIte, Nat.reduceEqDiff, Nat.reduceAdd, Fam.rb, List.drop_zero, List.drop_succ_cons, List.take_succ_cons, List.take_zero, List.length_cons, List.length_nil, Nat.zero_le, Nat.reduceLeDiff, and_self, true_and] <;> rfl))) ?_
   refine d_stepN (wA_none rfl) rfl (y_mapNew (M := []) (k := .int .i64 (wkr (nth L i))) (v := .bool true) rfl za za (by rfl) Try.underlying81 Try.underlying3 (by decide) (T3f) (int_ok _) (fun _ h => by cases h) (by (repeat rw [Tr.get_set, if_neg (by omega)]); first | assumption | (rw [Tr.get_set, if_pos (by omega)]; done) | (rw [Tr.get_set, if_pos (by omega)]; rfl)) rfl) ?_
   refine d_done ⟨de_last (by simp only [List.all_append, List.all_cons, List.all_nil, infOf, decide_eq_true hnB1, Bool.and_self]) zr (by show _ ≤ BIG; omega) (by show _ ≤ BIG; first | omega | (dsimp only; omega)), ?_⟩
   refine e_block ?_
   refine e_seq ?_
   refine k_region hP hC ?_
   refine os (x_bin rfl za (by rfl) b_add) ?_
   refine os (x_move rfl za) ?_
   refine o_done ?_
   refine e_loop ?_
   refine ⟨(IntKind.i64.wrap (i + 1), ks ++ [(nth L i, nx + 1 + 1)]), ⟨_, _, _, _, rfl, ?_⟩, ?_⟩
   ·show J1 L F s_L (IntKind.i64.wrap (i + 1)) _ _ _ _ _
    have hw1 : IntKind.i64.wrap (i + 1) = i + 1 := wr1 (by omega) (by omega)
    exact ⟨za, za, za, za, za, za, by (repeat rw [Tr.get_set, if_neg (by omega)]); first | assumption | (rw [Tr.get_set, if_pos (by omega)]; done) | (rw [Tr.get_set, if_pos (by omega)]; rfl), by (repeat rw [Tr.get_set, if_neg (by omega)]); first | assumption | (rw [Tr.get_set, if_pos (by omega)]; done) | (rw [Tr.get_set, if_pos (by omega)]; rfl), by (repeat rw [Tr.get_set, if_neg (by omega)]); first | assumption | (rw [Tr.get_set, if_pos (by omega)]; done) | (rw [Tr.get_set, if_pos (by omega)]; rfl), by rw [hw1]; exact KM.new km hL h0 (by omega) hn n4 (by omega) (by omega) (by (repeat rw [Tr.get_set, if_neg (by omega)]); first | assumption | (rw [Tr.get_set, if_pos (by omega)]; done) | (rw [Tr.get_set, if_pos (by omega)]; rfl)) (by (repeat rw [Tr.get_set, if_neg (by omega)]); first | assumption | (rw [Tr.get_set, if_pos (by omega)]; done) | (rw [Tr.get_set, if_pos (by omega)]; rfl)) (fun id k4 kn => by (repeat rw [Tr.get_set, if_neg (by omega)]) <;> rfl), by rw [hw1]; omega, by rw [hw1]; omega, by omega, by rw [hw1]; omega, by omega, by omega⟩
   ·show (L.length - IntKind.i64.wrap (i + 1)).toNat < (L.length - i).toNat; rw [wr1 (by omega) (by omega)]; omega
  ·have hlt := km.lt e0 he
   have hin := km.inner e0 he
   by_cases hwk : wkr (nth L i) ∈ gvF e0.1 (L.take i.toNat)
   ·skip
    refine k_region hP hC ?_
    refine os (x_load1 rfl za T.g78 (l_all (whole_row (by (repeat rw [Tr.get_set, if_neg (by omega)]); first | assumption | (rw [Tr.get_set, if_pos (by omega)]; done) | (rw [Tr.get_set, if_pos (by omega)]; rfl)) rfl) rfl)) ?_
    refine os (x_loadA rfl za T.g80 T.s80 (l_boxAll (whole_row (by (repeat rw [Tr.get_set, if_neg (by omega)]); first | assumption | (rw [Tr.get_set, if_pos (by omega)]; done) | (rw [Tr.get_set, if_pos (by omega)]; rfl)) rfl) (by (first | assumption | (exact cf_nth (by assumption) (by omega) (by omega)))) rfl)) ?_
    refine os (y_lookYes (M := outM ks) (k := saidK (nth L i)) rfl za za Try.underlying78 Try.underlying80 (by decide) T.f80 kk kO T.z81 rfl (by (repeat rw [Tr.get_set, if_neg (by omega)]); first | assumption | (rw [Tr.get_set, if_pos (by omega)]; done) | (rw [Tr.get_set, if_pos (by omega)]; rfl)) hl) ?_
    refine os (x_bin (u := .bool false) rfl za (by rfl) (b_eqlNilM Try.underlying81 (.inl ⟨rfl, rfl⟩))) ?_
    refine o_done ?_
    refine e_seq ?_
    refine k_condF (by simp only [Tr.get_set, reduceIte, Nat.reduceEqDiff, Nat.reduceAdd, ev_tmp, g2] <;> rfl) ?_
    refine k_skip ?_
    refine e_seq ?_
    refine k_draw hP hC zr ?_
    refine ds (x_load1 rfl za T.g78 (l_all (whole_row (by (repeat rw [Tr.get_set, if_neg (by omega)]); first | assumption | (rw [Tr.get_set, if_pos (by omega)]; done) | (rw [Tr.get_set, if_pos (by omega)]; rfl)) rfl) rfl)) ?_
    refine ds (x_loadA rfl za T.g80 T.s80 (l_boxAll (whole_row (by (repeat rw [Tr.get_set, if_neg (by omega)]); first | assumption | (rw [Tr.get_set, if_pos (by omega)]; done) | (rw [Tr.get_set, if_pos (by omega)]; rfl)) rfl) (by (first | assumption | (exact cf_nth (by assumption) (by omega) (by omega)))) rfl)) ?_
    refine ds (y_lookYes (M := outM ks) (k := saidK (nth L i)) rfl za za Try.underlying78 Try.underlying80 (by decide) T.f80 kk kO T.z81 rfl (by (repeat rw [Tr.get_set, if_neg (by omega)]); first | assumption | (rw [Tr.get_set, if_pos (by omega)]; done) | (rw [Tr.get_set, if_pos (by omega)]; rfl)) hl) ?_
    refine ds (x_field (off' := 0) rfl za Try.underlying43 rfl T.s3 rfl) ?_
    refine ds (x_load1 rfl za T.g3 (by first | exact l_boxI (whole_row (by (repeat rw [Tr.get_set, if_neg (by omega)]); first | assumption | (rw [Tr.get_set, if_pos (by omega)]; done) | (rw [Tr.get_set, if_pos (by omega)]; rfl)) rfl) (by (first | assumption | (exact cf_nth (by assumption) (by omega) (by omega)))) rfl | exact l_boxS (whole_row (by (repeat rw [Tr.get_set, if_neg (by omega)]); first | assumption | (rw [Tr.get_set, if_pos (by omega)]; done) | (rw [Tr.get_set, if_pos (by omega)]; rfl)) rfl) (by (first | assumption | (exact cf_nth (by assumption) (by omega) (by omega)))) rfl | (simp only [loadC, AH.fam, Tr.get_set, reduceIte, Nat.reduceEqDiff, Nat.reduceAdd, Fam.rb, List.drop_zero, List.drop_succ_cons, List.take_succ_cons, List.take_zero, List.length_cons, List.length_nil, Nat.zero_le, Nat.reduceLeDiff, and_self, true_and] <;> rfl))) ?_
    refine d_stepN (wA_none rfl) rfl (y_mapSame (M := inM (gvF e0.1 (L.take i.toNat))) (k := .int .i64 (wkr (nth L i))) (v := .bool true) rfl za za (by rfl) Try.underlying81 Try.underlying3 (by decide) (T3f) (int_ok _) keyIn (by (repeat rw [Tr.get_set, if_neg (by omega)]); first | assumption | (rw [Tr.get_set, if_pos (by omega)]; done) | (rw [Tr.get_set, if_pos (by omega)]; rfl)) (by rw [look_in, if_pos hwk])) ?_
    refine d_done ⟨de_last (by simp only [List.all_append, List.all_cons, List.all_nil, infOf, decide_eq_true hnB2, Bool.and_self]) zr (by show _ ≤ BIG; omega) (by show _ ≤ BIG; first | omega | (dsimp only; omega)), ?_⟩
    refine e_block ?_
    refine e_seq ?_
    refine k_region hP hC ?_
    refine os (x_bin rfl za (by rfl) b_add) ?_
    refine os (x_move rfl za) ?_
    refine o_done ?_
    refine e_loop ?_
    refine ⟨(IntKind.i64.wrap (i + 1), ks), ⟨_, _, _, _, rfl, ?_⟩, ?_⟩
    ·show J1 L F s_L (IntKind.i64.wrap (i + 1)) _ _ _ _ _
     have hw1 : IntKind.i64.wrap (i + 1) = i + 1 := wr1 (by omega) (by omega)
     exact ⟨za, za, za, za, za, za, by (repeat rw [Tr.get_set, if_neg (by omega)]); first | assumption | (rw [Tr.get_set, if_pos (by omega)]; done) | (rw [Tr.get_set, if_pos (by omega)]; rfl), by (repeat rw [Tr.get_set, if_neg (by omega)]); first | assumption | (rw [Tr.get_set, if_pos (by omega)]; done) | (rw [Tr.get_set, if_pos (by omega)]; rfl), by (repeat rw [Tr.get_set, if_neg (by omega)]); first | assumption | (rw [Tr.get_set, if_pos (by omega)]; done) | (rw [Tr.get_set, if_pos (by omega)]; rfl), by rw [hw1]; exact KM.old km hL h0 (by omega) he hs (by omega) (by (repeat rw [Tr.get_set, if_neg (by omega)]) <;> first | rfl | assumption | (rw [Tr.get_set, if_pos (by omega)]; done) | (rw [Tr.get_set, if_pos (by omega)]; rfl)) (by rw [if_pos hwk]; (repeat rw [Tr.get_set, if_neg (by omega)]); first | assumption | (rw [Tr.get_set, if_pos (by omega)]; done) | (rw [Tr.get_set, if_pos (by omega)]; rfl)) (fun id k4 kn kne => by (repeat rw [Tr.get_set, if_neg (by omega)]) <;> rfl), by rw [hw1]; omega, by rw [hw1]; omega, by omega, by rw [hw1]; omega, by omega, by omega⟩
    ·show (L.length - IntKind.i64.wrap (i + 1)).toNat < (L.length - i).toNat; rw [wr1 (by omega) (by omega)]; omega
   ·skip
    refine k_region hP hC ?_
    refine os (x_load1 rfl za T.g78 (l_all (whole_row (by (repeat rw [Tr.get_set, if_neg (by omega)]); first | assumption | (rw [Tr.get_set, if_pos (by omega)]; done) | (rw [Tr.get_set, if_pos (by omega)]; rfl)) rfl) rfl)) ?_
    refine os (x_loadA rfl za T.g80 T.s80 (l_boxAll (whole_row (by (repeat rw [Tr.get_set, if_neg (by omega)]); first | assumption | (rw [Tr.get_set, if_pos (by omega)]; done) | (rw [Tr.get_set, if_pos (by omega)]; rfl)) rfl) (by (first | assumption | (exact cf_nth (by assumption) (by omega) (by omega)))) rfl)) ?_
    refine os (y_lookYes (M := outM ks) (k := saidK (nth L i)) rfl za za Try.underlying78 Try.underlying80 (by decide) T.f80 kk kO T.z81 rfl (by (repeat rw [Tr.get_set, if_neg (by omega)]); first | assumption | (rw [Tr.get_set, if_pos (by omega)]; done) | (rw [Tr.get_set, if_pos (by omega)]; rfl)) hl) ?_
    refine os (x_bin (u := .bool false) rfl za (by rfl) (b_eqlNilM Try.underlying81 (.inl ⟨rfl, rfl⟩))) ?_
    refine o_done ?_
    refine e_seq ?_
    refine k_condF (by simp only [Tr.get_set, reduceIte, Nat.reduceEqDiff, Nat.reduceAdd, ev_tmp, g2] <;> rfl) ?_
    refine k_skip ?_
    refine e_seq ?_
    refine k_draw hP hC zr ?_
    refine ds (x_load1 rfl za T.g78 (l_all (whole_row (by (repeat rw [Tr.get_set, if_neg (by omega)]); first | assumption | (rw [Tr.get_set, if_pos (by omega)]; done) | (rw [Tr.get_set, if_pos (by omega)]; rfl)) rfl) rfl)) ?_
    refine ds (x_loadA rfl za T.g80 T.s80 (l_boxAll (whole_row (by (repeat rw [Tr.get_set, if_neg (by omega)]); first | assumption | (rw [Tr.get_set, if_pos (by omega)]; done) | (rw [Tr.get_set, if_pos (by omega)]; rfl)) rfl) (by (first | assumption | (exact cf_nth (by assumption) (by omega) (by omega)))) rfl)) ?_
    refine ds (y_lookYes (M := outM ks) (k := saidK (nth L i)) rfl za za Try.underlying78 Try.underlying80 (by decide) T.f80 kk kO T.z81 rfl (by (repeat rw [Tr.get_set, if_neg (by omega)]); first | assumption | (rw [Tr.get_set, if_pos (by omega)]; done) | (rw [Tr.get_set, if_pos (by omega)]; rfl)) hl) ?_
    refine ds (x_field (off' := 0) rfl za Try.underlying43 rfl T.s3 rfl) ?_
    refine ds (x_load1 rfl za T.g3 (by first | exact l_boxI (whole_row (by (repeat rw [Tr.get_set, if_neg (by omega)]); first | assumption | (rw [Tr.get_set, if_pos (by omega)]; done) | (rw [Tr.get_set, if_pos (by omega)]; rfl)) rfl) (by (first | assumption | (exact cf_nth (by assumption) (by omega) (by omega)))) rfl | exact l_boxS (whole_row (by (repeat rw [Tr.get_set, if_neg (by omega)]); first | assumption | (rw [Tr.get_set, if_pos (by omega)]; done) | (rw [Tr.get_set, if_pos (by omega)]; rfl)) rfl) (by (first | assumption | (exact cf_nth (by assumption) (by omega) (by omega)))) rfl | (simp only [loadC, AH.fam, Tr.get_set, reduceIte, Nat.reduceEqDiff, Nat.reduceAdd, Fam.rb, List.drop_zero, List.drop_succ_cons, List.take_succ_cons, List.take_zero, List.length_cons, List.length_nil, Nat.zero_le, Nat.reduceLeDiff, and_self, true_and] <;> rfl))) ?_
    refine d_stepN (wA_none rfl) rfl (y_mapNew (M := inM (gvF e0.1 (L.take i.toNat))) (k := .int .i64 (wkr (nth L i))) (v := .bool true) rfl za za (by rfl) Try.underlying81 Try.underlying3 (by decide) (T3f) (int_ok _) keyIn (by (repeat rw [Tr.get_set, if_neg (by omega)]); first | assumption | (rw [Tr.get_set, if_pos (by omega)]; done) | (rw [Tr.get_set, if_pos (by omega)]; rfl)) (by rw [look_in, if_neg hwk])) ?_
    refine d_done ⟨de_last (by simp only [List.all_append, List.all_cons, List.all_nil, infOf, decide_eq_true hnB2, Bool.and_self]) zr (by show _ ≤ BIG; omega) (by show _ ≤ BIG; first | omega | (dsimp only; omega)), ?_⟩
    refine e_block ?_
    refine e_seq ?_
    refine k_region hP hC ?_
    refine os (x_bin rfl za (by rfl) b_add) ?_
    refine os (x_move rfl za) ?_
    refine o_done ?_
    refine e_loop ?_
    refine ⟨(IntKind.i64.wrap (i + 1), ks), ⟨_, _, _, _, rfl, ?_⟩, ?_⟩
    ·show J1 L F s_L (IntKind.i64.wrap (i + 1)) _ _ _ _ _
     have hw1 : IntKind.i64.wrap (i + 1) = i + 1 := wr1 (by omega) (by omega)
     exact ⟨za, za, za, za, za, za, by (repeat rw [Tr.get_set, if_neg (by omega)]); first | assumption | (rw [Tr.get_set, if_pos (by omega)]; done) | (rw [Tr.get_set, if_pos (by omega)]; rfl), by (repeat rw [Tr.get_set, if_neg (by omega)]); first | assumption | (rw [Tr.get_set, if_pos (by omega)]; done) | (rw [Tr.get_set, if_pos (by omega)]; rfl), by (repeat rw [Tr.get_set, if_neg (by omega)]); first | assumption | (rw [Tr.get_set, if_pos (by omega)]; done) | (rw [Tr.get_set, if_pos (by omega)]; rfl), by rw [hw1]; exact KM.old km hL h0 (by omega) he hs (by omega) (by (repeat rw [Tr.get_set, if_neg (by omega)]) <;> first | rfl | assumption | (rw [Tr.get_set, if_pos (by omega)]; done) | (rw [Tr.get_set, if_pos (by omega)]; rfl)) (by rw [if_neg hwk, inM_append]; (repeat rw [Tr.get_set, if_neg (by omega)]); first | assumption | (rw [Tr.get_set, if_pos (by omega)]; done) | (rw [Tr.get_set, if_pos (by omega)]; rfl)) (fun id k4 kn kne => by (repeat rw [Tr.get_set, if_neg (by omega)]) <;> rfl), by rw [hw1]; omega, by rw [hw1]; omega, by omega, by rw [hw1]; omega, by omega, by omega⟩
    ·show (L.length - IntKind.i64.wrap (i + 1)).toNat < (L.length - i).toNat; rw [wr1 (by omega) (by omega)]; omega
 ·have p2 := g2; try simp only [d1, d2, d3, d4, d5, d6, d7, d8, d9] at p2
  refine k_exit ?_
  refine e_seq_exit ?_
  refine e_loop_exit ?_
  refine e_block_eq ?_
  refine e_seq ?_
  refine k_seq ?_
  refine k_region hP hC ?_
  refine os (y_makeMap rfl) ?_
  refine os (x_assign rfl za) ?_
  refine o_done ?_
  refine e_seq ?_
  refine k_seq ?_
  refine k_region hP hC ?_
  refine os (x_assign rfl (by rfl)) ?_
  refine o_done ?_
  refine e_seq ?_
  refine k_seq ?_
  refine k_seq ?_
  refine k_region hP hC ?_
  refine os (x_move rfl za) ?_
  refine os (x_lenS hs_L rfl rfl (by simp only [evs, ev_tmp, Tr.get_set, reduceIte, Nat.reduceEqDiff, Nat.reduceAdd, he0, he3, he5, he16, he17, he18, g2] <;> rfl) rfl Try.underlying23) ?_
  refine os (x_move rfl (by rfl)) ?_
  refine o_done ?_
  refine e_seq ?_
  refine k_block ?_
  have hi : i = L.length := by omega
  subst hi
  refine k_loopI (α := Int) (fun i s => ∃ v e t nx' wr, s = ⟨e, 69, ⟨t, nx', wr⟩⟩ ∧ J2 L F s_L nx nx ks i v e t nx' wr) (fun i => (L.length - i).toNat) 0 ⟨_, _, _, _, _, rfl, ⟨za, za, za, za, za, za, za, za, by (repeat rw [Tr.get_set, if_neg (by omega)]); first | assumption | (rw [Tr.get_set, if_pos (by omega)]; done) | (rw [Tr.get_set, if_pos (by omega)]; rfl), by (repeat rw [Tr.get_set, if_neg (by omega)]); first | assumption | (rw [Tr.get_set, if_pos (by omega)]; done) | (rw [Tr.get_set, if_pos (by omega)]; rfl), by (repeat rw [Tr.get_set, if_neg (by omega)]); first | assumption | (rw [Tr.get_set, if_pos (by omega)]; done) | (rw [Tr.get_set, if_pos (by omega)]; rfl), by (repeat rw [Tr.get_set, if_neg (by omega)]); first | assumption | (rw [Tr.get_set, if_pos (by omega)]; done) | (rw [Tr.get_set, if_pos (by omega)]; rfl), km.mono n4 (by omega) (fun id hid => by (repeat rw [Tr.get_set, if_neg (by omega)]) <;> rfl), .inl ⟨rfl, rfl⟩, by omega, by omega, n4, by omega, by omega, by omega, by omega, by omega⟩⟩ ?_
  have nb1 := nb
  clear w1 wb t0 t1 t2 t3 he0 he3 he5 he16 he17 he18 kO hnB hnB1 hnB2 h0 h1 nb km
  generalize hn1 : nx = n1 at *
  rintro i s ⟨v, e, t, nx, wr, rfl, ⟨he0, he3, he5, he9, he10, he41, he42, he43, t0, t1, t3, t9, km, hacc, h0, h1, n4, nm, nn, nb, w1, wb⟩⟩
  refine k_seq ?_
  refine k_region hP hC ?_
  refine os (x_bin rfl za za b_lss) ?_
  refine o_done ?_
  refine e_seq ?_
  refine k_seq ?_
  refine k_cond (by simp only [Tr.get_set, reduceIte, Nat.reduceEqDiff, Nat.reduceAdd, ev_tmp, he0, he3, he5, he9, he10, he41, he42, he43] <;> rfl) (fun g4 => ?_) (fun g4 => ?_)
  ·have p4 := g4; try simp only [d1, d2, d3, d4, d5, d6, d7, d8, d9] at p4
   refine k_skip ?_
   refine e_seq ?_
   refine k_seq ?_
   refine k_block ?_
   refine k_seq ?_
   have hx := cf_nth hL h0 (show i < L.length by omega)
   refine k_region hP hC ?_
   refine os (x_indexS hs_L rfl za za Try.underlying23 T.s43 (by omega) (by omega)) ?_
   refine os (x_loadA rfl za T.g43 T.s43 (l_elem (whole_row (by (repeat rw [Tr.get_set, if_neg (by omega)]); first | assumption | (rw [Tr.get_set, if_pos (by omega)]; done) | (rw [Tr.get_set, if_pos (by omega)]; rfl)) rfl) (by assumption) rfl (by omega) (by omega))) ?_
   refine os (y_alloc rfl T.z43 rfl rfl) ?_
   refine o_stepN (wA_none rfl) rfl (y_storeA rfl za za T.s43 (cf_len (ks := T.K43) zc) (by (repeat rw [Tr.get_set, if_neg (by omega)]); first | assumption | (rw [Tr.get_set, if_pos (by omega)]; done) | (rw [Tr.get_set, if_pos (by omega)]; rfl)) rfl rfl (cf_oneC (ks := T.K43) zc)) ?_
   refine o_done ?_
   refine e_seq ?_
   refine k_seq ?_
   refine k_seq ?_
   have hlk := look_doneF hL h0 (show i < L.length by omega)
   have kA := askO_ok hx
   have kD := doneM_ok hL (i := i.toNat) (by omega)
   cases hf : agFirst L i i
   ·rw [hf] at hlk; simp only [Bool.false_eq_true, if_true, if_false] at hlk
    refine k_region hP hC ?_
    refine os (x_move rfl za) ?_
    refine os (x_field (off' := 2) rfl za Try.underlying43 rfl T.s37 rfl) ?_
    refine os (x_loadA rfl za T.g37 T.s37 (l_box (whole_row (by (repeat rw [Tr.get_set, if_neg (by omega)]); first | assumption | (rw [Tr.get_set, if_pos (by omega)]; done) | (rw [Tr.get_set, if_pos (by omega)]; rfl)) rfl) (by (first | assumption | (exact cf_nth (by assumption) (by omega) (by omega)))) (by decide))) ?_
    refine os (y_lookYes (M := doneM L i.toNat) (k := .agg ⟨askC (nth L i)⟩) rfl za za Try.underlying82 Try.underlying37 (by decide) T.f37 kA kD T.z4 rfl (by (repeat rw [Tr.get_set, if_neg (by omega)]); first | assumption | (rw [Tr.get_set, if_pos (by omega)]; done) | (rw [Tr.get_set, if_pos (by omega)]; rfl)) hlk) ?_
    refine o_done ?_
    refine e_seq ?_
    refine k_condT (by simp only [Tr.get_set, reduceIte, Nat.reduceEqDiff, Nat.reduceAdd, ev_tmp, g4] <;> rfl) ?_
    refine k_exit ?_
    refine e_seq_exit ?_
    refine e_block_eq ?_
    refine e_seq ?_
    refine k_region hP hC ?_
    refine os (x_bin rfl za (by rfl) b_add) ?_
    refine os (x_move rfl za) ?_
    refine o_done ?_
    refine e_loop ?_
    refine ⟨IntKind.i64.wrap (i + 1), ⟨v, _, _, _, _, rfl, ?_⟩, ?_⟩
    ·show J2 L F s_L n1 n1 ks (IntKind.i64.wrap (i + 1)) _ _ _ _ _
     have hw1 : IntKind.i64.wrap (i + 1) = i + 1 := wr1 (by omega) (by omega)
     have hN : agO L F (i + 1) = agO L F i := by rw [agO_next h0, agI_no hf, List.append_nil]
     have hD := done_skip h0 hf
     exact ⟨za, za, za, za, za, za, za, za, by (repeat rw [Tr.get_set, if_neg (by omega)]); first | assumption | (rw [Tr.get_set, if_pos (by omega)]; done) | (rw [Tr.get_set, if_pos (by omega)]; rfl), by (repeat rw [Tr.get_set, if_neg (by omega)]); first | assumption | (rw [Tr.get_set, if_pos (by omega)]; done) | (rw [Tr.get_set, if_pos (by omega)]; rfl), by (repeat rw [Tr.get_set, if_neg (by omega)]); first | assumption | (rw [Tr.get_set, if_pos (by omega)]; done) | (rw [Tr.get_set, if_pos (by omega)]; rfl), by rw [hw1, hD]; (repeat rw [Tr.get_set, if_neg (by omega)]); first | assumption | (rw [Tr.get_set, if_pos (by omega)]; done) | (rw [Tr.get_set, if_pos (by omega)]; rfl), km.mono n4 (by omega) (fun id hid => by (repeat rw [Tr.get_set, if_neg (by omega)]) <;> rfl), by rw [hw1, hN]; exact (hacc.keep (by omega) (fun id k4 kn kne => by (repeat rw [Tr.get_set, if_neg (by omega)]) <;> rfl)), by rw [hw1]; omega, by rw [hw1]; omega, n4, by omega, by omega, by rw [hw1]; omega, by omega, by omega⟩
    ·show (L.length - IntKind.i64.wrap (i + 1)).toNat < (L.length - i).toNat; rw [wr1 (by omega) (by omega)]; omega
   ·rw [hf] at hlk; simp only [Bool.false_eq_true, if_true, if_false] at hlk
    refine k_region hP hC ?_
    refine os (x_move rfl za) ?_
    refine os (x_field (off' := 2) rfl za Try.underlying43 rfl T.s37 rfl) ?_
    refine os (x_loadA rfl za T.g37 T.s37 (l_box (whole_row (by (repeat rw [Tr.get_set, if_neg (by omega)]); first | assumption | (rw [Tr.get_set, if_pos (by omega)]; done) | (rw [Tr.get_set, if_pos (by omega)]; rfl)) rfl) (by (first | assumption | (exact cf_nth (by assumption) (by omega) (by omega)))) (by decide))) ?_
    refine os (y_lookNo (M := doneM L i.toNat) (k := .agg ⟨askC (nth L i)⟩) rfl za za Try.underlying82 Try.underlying37 (by decide) T.f37 kA kD T.z4 rfl (by (repeat rw [Tr.get_set, if_neg (by omega)]); first | assumption | (rw [Tr.get_set, if_pos (by omega)]; done) | (rw [Tr.get_set, if_pos (by omega)]; rfl)) hlk) ?_
    refine o_done ?_
    refine e_seq ?_
    refine k_condF (by simp only [Tr.get_set, reduceIte, Nat.reduceEqDiff, Nat.reduceAdd, ev_tmp, g4] <;> rfl) ?_
    refine k_skip ?_
    refine e_seq ?_
    refine k_seq ?_
    refine k_region hP hC ?_
    refine os (x_move rfl za) ?_
    refine os (x_field (off' := 2) rfl za Try.underlying43 rfl T.s37 rfl) ?_
    refine os (x_loadA rfl za T.g37 T.s37 (l_box (whole_row (by (repeat rw [Tr.get_set, if_neg (by omega)]); first | assumption | (rw [Tr.get_set, if_pos (by omega)]; done) | (rw [Tr.get_set, if_pos (by omega)]; rfl)) rfl) (by (first | assumption | (exact cf_nth (by assumption) (by omega) (by omega)))) (by decide))) ?_
    refine o_stepN (wA_none rfl) rfl (y_mapNew (M := doneM L i.toNat) (k := .agg ⟨askC (nth L i)⟩) (v := .bool true) rfl za za (by rfl) Try.underlying82 Try.underlying37 (by decide) T.f37 kA kD (by (repeat rw [Tr.get_set, if_neg (by omega)]); first | assumption | (rw [Tr.get_set, if_pos (by omega)]; done) | (rw [Tr.get_set, if_pos (by omega)]; rfl)) hlk) ?_
    refine o_done ?_
    refine e_seq ?_
    refine k_seq ?_
    refine k_region hP hC ?_
    refine os (x_makeFunc rfl (by simp only [evs, ev_tmp, Tr.get_set, reduceIte, Nat.reduceEqDiff, Nat.reduceAdd, he0, he3, he5, he9, he10, he41, he42, he43, g4] <;> rfl) (by simp only [evs, ev_tmp, Tr.get_set, reduceIte, Nat.reduceEqDiff, Nat.reduceAdd, he0, he3, he5, he9, he10, he41, he42, he43, g4] <;> rfl)) ?_
    refine os (x_assign rfl za) ?_
    refine o_done ?_
    refine e_seq ?_
    refine k_seq ?_
    rcases agI_find (F := F) hL h0 (show i < L.length by omega) hf with ⟨hI, hO⟩ | ⟨k, k0, k1, hI, hO⟩
    ·skip
     refine k_region hP hC ?_
     refine os (x_move rfl za) ?_
     refine os (x_move rfl za) ?_
     refine o_call0 (wA_none rfl) rfl rfl rfl (by simp only [evs, ev_tmp, Tr.get_set, reduceIte, Nat.reduceEqDiff, Nat.reduceAdd, he0, he3, he5, he9, he10, he41, he42, he43, g4] <;> rfl) (by decide) ?_
     refine ⟨_, _, (tab_hit.trans (R36_hit (v := .int .i64 (-1)) ⟨⟨s_L, nth L i, nx, rfl, hs_L, by (repeat rw [Tr.get_set, if_neg (by omega)]); first | assumption | (rw [Tr.get_set, if_pos (by omega)]; done) | (rw [Tr.get_set, if_pos (by omega)]; rfl), ⟨by (repeat rw [Tr.get_set, if_neg (by omega)]); first | assumption | (rw [Tr.get_set, if_pos (by omega)]; done) | (rw [Tr.get_set, if_pos (by omega)]; rfl), by (repeat rw [Tr.get_set, if_neg (by omega)]); first | assumption | (rw [Tr.get_set, if_pos (by omega)]; done) | (rw [Tr.get_set, if_pos (by omega)]; rfl), by (repeat rw [Tr.get_set, if_neg (by omega)]); first | assumption | (rw [Tr.get_set, if_pos (by omega)]; done) | (rw [Tr.get_set, if_pos (by omega)]; rfl), hx, ⟨ks, L.length, km.mono n4 (show n1 ≤ nx + 1 by omega) (fun id hid => by (repeat rw [Tr.get_set, if_neg (by omega)]) <;> rfl), Int.le_refl _⟩, ⟨by omega, by show nx < nx + 1; omega⟩, by show nx + 1 + 10 ≤ BIG; unfold BIG; omega⟩, by rw [hI]⟩⟩)), ?_⟩
     refine os (x_assign rfl za) ?_
     refine o_done ?_
     refine e_seq ?_
     refine k_seq ?_
     refine k_region hP hC ?_
     refine os (x_move rfl za) ?_
     refine os (x_bin (u := .bool false) rfl za (by rfl) (by rw [b_geq]; rfl)) ?_
     refine o_done ?_
     refine e_seq ?_
     refine k_condF (by simp only [Tr.get_set, reduceIte, Nat.reduceEqDiff, Nat.reduceAdd, ev_tmp, g4] <;> rfl) ?_
     refine k_skip ?_
     refine e_block ?_
     refine e_seq ?_
     refine k_region hP hC ?_
     refine os (x_bin rfl za (by rfl) b_add) ?_
     refine os (x_move rfl za) ?_
     refine o_done ?_
     refine e_loop ?_
     refine ⟨IntKind.i64.wrap (i + 1), ⟨v, _, _, _, _, rfl, ?_⟩, ?_⟩
     ·show J2 L F s_L n1 n1 ks (IntKind.i64.wrap (i + 1)) _ _ _ _ _
      have hw1 : IntKind.i64.wrap (i + 1) = i + 1 := wr1 (by omega) (by omega)
      have hN : agO L F (i + 1) = agO L F i := by rw [agO_next h0, hO, List.append_nil]
      have hD := done_new h0 hf
      exact ⟨za, za, za, za, za, za, za, za, by (repeat rw [Tr.get_set, if_neg (by omega)]); first | assumption | (rw [Tr.get_set, if_pos (by omega)]; done) | (rw [Tr.get_set, if_pos (by omega)]; rfl), by (repeat rw [Tr.get_set, if_neg (by omega)]); first | assumption | (rw [Tr.get_set, if_pos (by omega)]; done) | (rw [Tr.get_set, if_pos (by omega)]; rfl), by (repeat rw [Tr.get_set, if_neg (by omega)]); first | assumption | (rw [Tr.get_set, if_pos (by omega)]; done) | (rw [Tr.get_set, if_pos (by omega)]; rfl), by rw [hw1, hD]; (repeat rw [Tr.get_set, if_neg (by omega)]); first | assumption | (rw [Tr.get_set, if_pos (by omega)]; done) | (rw [Tr.get_set, if_pos (by omega)]; rfl), km.mono n4 (by omega) (fun id hid => by (repeat rw [Tr.get_set, if_neg (by omega)]) <;> rfl), by rw [hw1, hN]; exact (hacc.keep (by omega) (fun id k4 kn kne => by (repeat rw [Tr.get_set, if_neg (by omega)]) <;> rfl)), by rw [hw1]; omega, by rw [hw1]; omega, n4, by omega, by omega, by rw [hw1]; omega, by omega, by omega⟩
     ·show (L.length - IntKind.i64.wrap (i + 1)).toNat < (L.length - i).toNat; rw [wr1 (by omega) (by omega)]; omega
    ·skip
     refine k_region hP hC ?_
     refine os (x_move rfl za) ?_
     refine os (x_move rfl za) ?_
     refine o_call0 (wA_none rfl) rfl rfl rfl (by simp only [evs, ev_tmp, Tr.get_set, reduceIte, Nat.reduceEqDiff, Nat.reduceAdd, he0, he3, he5, he9, he10, he41, he42, he43, g4] <;> rfl) (by decide) ?_
     refine ⟨_, _, (tab_hit.trans (R36_hit (v := .int .i64 k) ⟨⟨s_L, nth L i, nx, rfl, hs_L, by (repeat rw [Tr.get_set, if_neg (by omega)]); first | assumption | (rw [Tr.get_set, if_pos (by omega)]; done) | (rw [Tr.get_set, if_pos (by omega)]; rfl), ⟨by (repeat rw [Tr.get_set, if_neg (by omega)]); first | assumption | (rw [Tr.get_set, if_pos (by omega)]; done) | (rw [Tr.get_set, if_pos (by omega)]; rfl), by (repeat rw [Tr.get_set, if_neg (by omega)]); first | assumption | (rw [Tr.get_set, if_pos (by omega)]; done) | (rw [Tr.get_set, if_pos (by omega)]; rfl), by (repeat rw [Tr.get_set, if_neg (by omega)]); first | assumption | (rw [Tr.get_set, if_pos (by omega)]; done) | (rw [Tr.get_set, if_pos (by omega)]; rfl), hx, ⟨ks, L.length, km.mono n4 (show n1 ≤ nx + 1 by omega) (fun id hid => by (repeat rw [Tr.get_set, if_neg (by omega)]) <;> rfl), Int.le_refl _⟩, ⟨by omega, by show nx < nx + 1; omega⟩, by show nx + 1 + 10 ≤ BIG; unfold BIG; omega⟩, by rw [hI]⟩⟩)), ?_⟩
     refine os (x_assign rfl za) ?_
     refine o_done ?_
     refine e_seq ?_
     refine k_seq ?_
     refine k_region hP hC ?_
     refine os (x_move rfl za) ?_
     refine os (x_bin (u := .bool true) rfl za (by rfl) (by rw [b_geq]; congr 2; exact decide_eq_true (by omega))) ?_
     refine o_done ?_
     refine e_seq ?_
     refine k_condT (by simp only [Tr.get_set, reduceIte, Nat.reduceEqDiff, Nat.reduceAdd, ev_tmp, g4] <;> rfl) ?_
     have hy := cf_nth hL k0 k1
     have hal : (agO L F i).length ≤ i.toNat := agO_len
     rcases hacc with ⟨ha0, hv⟩ | ⟨ha0, id, r, hv, hown, rm, im, r1, i1, rn, idn⟩
     ·subst hv
      refine k_region hP hC ?_
      refine os (x_move rfl za) ?_
      refine os (x_move rfl za) ?_
      refine os (x_move rfl za) ?_
      refine os (x_indexS hs_L rfl za za Try.underlying23 T.s43 (by omega) (by omega)) ?_
      refine os (x_loadA rfl za T.g43 T.s43 (l_elem (whole_row (by (repeat rw [Tr.get_set, if_neg (by omega)]); first | assumption | (rw [Tr.get_set, if_pos (by omega)]; done) | (rw [Tr.get_set, if_pos (by omega)]; rfl)) rfl) (by assumption) rfl (by omega) (by omega))) ?_
      refine os (y_bsliceA rfl za Try.underlying23 T.s43 T.z43 (by decide) rfl rfl (cf_len (ks := T.K43) (by first | rfl | assumption | (apply cf_part; (first | assumption | (exact cf_nth (by assumption) (by omega) (by omega))); rfl) | (exact cf_nth (by assumption) (by omega) (by omega)))) (by decide)) ?_
      refine os (x_append rfl rfl (by simp only [evs, ev_tmp, Tr.get_set, reduceIte, Nat.reduceEqDiff, Nat.reduceAdd, he0, he3, he5, he9, he10, he41, he42, he43, g4] <;> rfl) rfl rfl zr (cells_row Try.underlying23 T.s43 (l_all (whole_row (by (repeat rw [Tr.get_set, if_neg (by omega)]); first | assumption | (rw [Tr.get_set, if_pos (by omega)]; done) | (rw [Tr.get_set, if_pos (by omega)]; rfl)) rfl) (by rw [Nat.one_mul]; exact (cf_len hy).symm))) (ya_nil Try.underlying23 T.i23 (by decide) (by rw [Nat.one_mul]; exact cf_len hy) (by decide) (by decide) (cf_oneC (ks := T.K43) hy) (by decide))) ?_
      refine os (x_assign rfl za) ?_
      refine o_done ?_
      refine e_block ?_
      refine e_seq ?_
      refine k_region hP hC ?_
      refine os (x_bin rfl za (by rfl) b_add) ?_
      refine os (x_move rfl za) ?_
      refine o_done ?_
      refine e_loop ?_
      refine ⟨IntKind.i64.wrap (i + 1), ⟨.slice (some ⟨nx + 1 + 1, 0, none⟩) 1 (1 + 46), _, _, _, _, rfl, ?_⟩, ?_⟩
      ·show J2 L F s_L n1 n1 ks (IntKind.i64.wrap (i + 1)) _ _ _ _ _
       have hw1 : IntKind.i64.wrap (i + 1) = i + 1 := wr1 (by omega) (by omega)
       have hN : agO L F (i + 1) = agO L F i ++ [nth L k] := by rw [agO_next h0, hO]
       rw [ha0, List.nil_append] at hN
       have hD := done_new h0 hf
       exact ⟨za, za, za, za, za, za, za, za, by (repeat rw [Tr.get_set, if_neg (by omega)]); first | assumption | (rw [Tr.get_set, if_pos (by omega)]; done) | (rw [Tr.get_set, if_pos (by omega)]; rfl), by (repeat rw [Tr.get_set, if_neg (by omega)]); first | assumption | (rw [Tr.get_set, if_pos (by omega)]; done) | (rw [Tr.get_set, if_pos (by omega)]; rfl), by (repeat rw [Tr.get_set, if_neg (by omega)]); first | assumption | (rw [Tr.get_set, if_pos (by omega)]; done) | (rw [Tr.get_set, if_pos (by omega)]; rfl), by rw [hw1, hD]; (repeat rw [Tr.get_set, if_neg (by omega)]); first | assumption | (rw [Tr.get_set, if_pos (by omega)]; done) | (rw [Tr.get_set, if_pos (by omega)]; rfl), km.mono n4 (by omega) (fun id hid => by (repeat rw [Tr.get_set, if_neg (by omega)]) <;> rfl), by rw [hw1, hN]; exact (.inr ⟨by simp, nx + 1 + 1, nx + 1 + 1, rfl, ⟨BIG, 0, .inl ⟨rfl, (by rw [Tr.get_set, if_pos rfl]; simp only [List.flatten_cons, List.flatten_nil, List.append_nil] <;> rfl)⟩⟩, by omega, by omega, by omega, by omega, by omega, by omega⟩), by rw [hw1]; omega, by rw [hw1]; omega, n4, by omega, by omega, by rw [hw1]; omega, by omega, by omega⟩
      ·show (L.length - IntKind.i64.wrap (i + 1)).toNat < (L.length - i).toNat; rw [wr1 (by omega) (by omega)]; omega
     ·subst hv
      refine k_region hP hC ?_
      refine os (x_move rfl za) ?_
      refine os (x_move rfl za) ?_
      refine os (x_move rfl za) ?_
      refine os (x_indexS hs_L rfl za za Try.underlying23 T.s43 (by omega) (by omega)) ?_
      refine os (x_loadA rfl za T.g43 T.s43 (l_elem (whole_row (by (repeat rw [Tr.get_set, if_neg (by omega)]); first | assumption | (rw [Tr.get_set, if_pos (by omega)]; done) | (rw [Tr.get_set, if_pos (by omega)]; rfl)) rfl) (by assumption) rfl (by omega) (by omega))) ?_
      refine os (y_bsliceA rfl za Try.underlying23 T.s43 T.z43 (by decide) rfl rfl (cf_len (ks := T.K43) (by first | rfl | assumption | (apply cf_part; (first | assumption | (exact cf_nth (by assumption) (by omega) (by omega))); rfl) | (exact cf_nth (by assumption) (by omega) (by omega)))) (by decide)) ?_
      refine o_appR (wA_none rfl) rfl rfl rfl (by simp only [evs, ev_tmp, Tr.get_set, reduceIte, Nat.reduceEqDiff, Nat.reduceAdd, he0, he3, he5, he9, he10, he41, he42, he43, g4] <;> rfl) rfl rfl zr (cells_row Try.underlying23 T.s43 (l_all (whole_row (by (repeat rw [Tr.get_set, if_neg (by omega)]); first | assumption | (rw [Tr.get_set, if_pos (by omega)]; done) | (rw [Tr.get_set, if_pos (by omega)]; rfl)) rfl) (by rw [Nat.one_mul]; exact (cf_len hy).symm))) Try.underlying23 T.i23 (by decide) (by rw [Nat.one_mul]; exact cf_len hy) (by omega) (by unfold BIG; omega) (cf_oneC (ks := T.K43) hy) (by decide) (hown.keep (by (repeat rw [Tr.get_set, if_neg (by omega)]) <;> first | rfl | assumption | (rw [Tr.get_set, if_pos (by omega)]; done) | (rw [Tr.get_set, if_pos (by omega)]; rfl)) (by (repeat rw [Tr.get_set, if_neg (by omega)]) <;> first | rfl | assumption | (rw [Tr.get_set, if_pos (by omega)]; done) | (rw [Tr.get_set, if_pos (by omega)]; rfl))) (cfs_len (agO_cfs hL)) (by omega) (by omega) (by decide) (fun tA oA kA2 => ?_)
      refine os (x_assign rfl za) ?_
      refine o_done ?_
      refine e_block ?_
      refine e_seq ?_
      refine k_region hP hC ?_
      refine os (x_bin rfl za (by rfl) b_add) ?_
      refine os (x_move rfl za) ?_
      refine o_done ?_
      refine e_loop ?_
      refine ⟨IntKind.i64.wrap (i + 1), ⟨.slice (some ⟨nx + 1 + 1, 0, none⟩) ((agO L F i).length + 1) ((agO L F i).length + 1 + 46), _, _, _, _, rfl, ?_⟩, ?_⟩
      ·show J2 L F s_L n1 n1 ks (IntKind.i64.wrap (i + 1)) _ _ _ _ _
       have hw1 : IntKind.i64.wrap (i + 1) = i + 1 := wr1 (by omega) (by omega)
       have hN : agO L F (i + 1) = agO L F i ++ [nth L k] := by rw [agO_next h0, hO]
       have hD := done_new h0 hf
       exact ⟨za, za, za, za, za, za, za, za, by rw [kA2 _ (by omega) (by omega)]; (repeat rw [Tr.get_set, if_neg (by omega)]); first | assumption | (rw [Tr.get_set, if_pos (by omega)]; done) | (rw [Tr.get_set, if_pos (by omega)]; rfl), by rw [kA2 _ (by omega) (by omega)]; (repeat rw [Tr.get_set, if_neg (by omega)]); first | assumption | (rw [Tr.get_set, if_pos (by omega)]; done) | (rw [Tr.get_set, if_pos (by omega)]; rfl), by rw [kA2 _ (by omega) (by omega)]; (repeat rw [Tr.get_set, if_neg (by omega)]); first | assumption | (rw [Tr.get_set, if_pos (by omega)]; done) | (rw [Tr.get_set, if_pos (by omega)]; rfl), by rw [hw1, hD]; rw [kA2 _ (by omega) (by omega)]; (repeat rw [Tr.get_set, if_neg (by omega)]); first | assumption | (rw [Tr.get_set, if_pos (by omega)]; done) | (rw [Tr.get_set, if_pos (by omega)]; rfl), km.mono n4 (by omega) (fun id hid => by rw [kA2 _ (by omega) (by omega)]; (repeat rw [Tr.get_set, if_neg (by omega)])), by rw [hw1, hN]; exact (.inr ⟨by simp, nx + 1 + 1, r, (by simp only [List.length_append, List.length_cons, List.length_nil] <;> rfl), (by simp only [List.flatten_append, List.flatten_cons, List.flatten_nil, List.append_nil]; exact oA), rm, by omega, r1, by omega, by omega, by omega⟩), by rw [hw1]; omega, by rw [hw1]; omega, n4, by omega, by omega, by rw [hw1]; omega, by omega, by omega⟩
      ·show (L.length - IntKind.i64.wrap (i + 1)).toNat < (L.length - i).toNat; rw [wr1 (by omega) (by omega)]; omega
  ·have p4 := g4; try simp only [d1, d2, d3, d4, d5, d6, d7, d8, d9] at p4
   refine k_exit ?_
   refine e_seq_exit ?_
   refine e_loop_exit ?_
   refine e_block_eq ?_
   refine e_seq ?_
   refine k_seq ?_
   refine k_region hP hC ?_
   refine os (x_move rfl za) ?_
   refine os (x_assign rfl za) ?_
   refine o_done ?_
   refine e_seq ?_
   refine k_ret ?_
   have hi : i = L.length := by omega
   subst hi
   rcases hacc with ⟨ha0, hv⟩ | ⟨ha0, id, r, hv, hown, rm, im, r1, i1, rn, idn⟩
   ·subst hv
    have e : agreedL L F = [] := ha0
    unfold val_agreed new_agreed
    rw [e]
    exact gives_mk2 (L := [0]) (w := 1) (.inr rfl) gcOk_one (by simp only [Try.results16, resA, Tr.get_set, reduceIte, Nat.reduceEqDiff, Nat.reduceAdd, he0, he3, he5, he9, he10, he41, he42, he43, g4] <;> rfl) (by rfl) (gcH_cons (gcO_old (by simp only [Bool.and_eq_true, Nat.blt_eq]; exact ⟨Nat.one_pos, by show 0 < _; omega⟩) (by (repeat rw [Tr.get_set, if_neg (by omega)]); first | assumption | (rw [Tr.get_set, if_pos (by omega)]; done) | (rw [Tr.get_set, if_pos (by omega)]; rfl))) gcH_nil) (Nat.ble_eq_true_of_le (by first | omega | (dsimp only; omega)))
   ·subst hv
    have e : agO L F L.length = agreedL L F := rfl
    rw [e] at ha0 hown
    unfold val_agreed new_agreed
    rw [outV_ne (by omega), outN_ne (by omega)]
    exact gives_mk2 (L := [0, id]) (w := 1) (.inr rfl) (hown.gcOk t0 (by omega) (by omega) (by omega)) (by simp only [Try.results16, resA, Tr.get_set, reduceIte, Nat.reduceEqDiff, Nat.reduceAdd, he0, he3, he5, he9, he10, he41, he42, he43, g4] <;> rfl) (gcV_slice (by show posOf [0, id] id = some 1; unfold posOf; rw [List.findIdx?_cons, if_neg (by simp; omega), List.findIdx?_cons, if_pos (by simp)]; rfl)) (gcH_cons (gcO_old (by simp only [Bool.and_eq_true, Nat.blt_eq]; exact ⟨Nat.one_pos, by show 0 < _; omega⟩) (by (repeat rw [Tr.get_set, if_neg (by omega)]); first | assumption | (rw [Tr.get_set, if_pos (by omega)]; done) | (rw [Tr.get_set, if_pos (by omega)]; rfl))) (gcH_cons (hown.gcO (by rfl) (gcD_free (cfs_free1 (agreedL_cfs hL)))) gcH_nil)) (Nat.ble_eq_true_of_le (by first | omega | (dsimp only; omega)))
theorem con_agreed : Con Try.prog 16 c_agreed := con_flat Try.func16 rfl fun us cs v new h => by
 unfold spec_agreed at h
 split at h
 case h_2 => cases h
 rename_i s_L F c_L
 split at h
 case isFalse => cases h
 rename_i hc
 try simp only [Bool.and_eq_true] at hc
 obtain ⟨⟨q_L, r_L⟩, hok⟩ := hc
 cases h
 obtain ⟨h_L, e_L⟩ := isRows_cfs (by decide) r_L
 have hs_L := slOk_sl (n := (chunks 46 c_L).length) q_L (by decide) (rows_len (ks := T.K43) (by decide) r_L)
 have key := agreed_m hs_L h_L hok
 have hrows : [(chunks T.K43.length c_L).flatten] = [c_L] := by rw [e_L]
 rw [← hrows]
 exact key
theorem agreed_c {H : AH} {s_L : Value} {L : List (List Value)} {F : Int} (hr_L : Rd H 46 s_L L.length L.flatten) (h_L : cfs T.K43 L) (hok : ok_agreed L F = true) : c_agreed [s_L, .int .i64 F] H = some (outV H.next 46 (agreedL L F).length, addRows H (outN (agreedL L F).length (agreedL L F).flatten)) := by
 obtain ⟨u_L, a_L, b_L⟩ := hr_L 0
 have k_L := isRows_flat (by decide) h_L
 have k2_L : chunks 46 L.flatten = L := k_L.2
 exact flatC_at (v := val_agreed L F) (new := new_agreed L F) (cl_sl a_L (cl_fr rfl cl_nil)) (by simp only [spec_agreed, sl_slOk b_L (cfs_len h_L), k_L.1, k2_L, hok, Bool.and_self, if_true]) (by unfold new_agreed outN; split; rfl; simp only [List.all_cons, List.all_nil, Bool.and_true]; exact cfs_free0 (agreedL_cfs h_L)) (out_gc)
end Go.Proofs.Ytohhcnehcjpekaa
