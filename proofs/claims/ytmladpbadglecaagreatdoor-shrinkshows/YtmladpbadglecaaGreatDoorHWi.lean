/-
  Heap sort.
-/
import Derived.Test.YtmladpbadglecaaGreatDoorHWh
import Derived.Test.YtmladpbadglecaaGreatDoorHSd
set_option linter.unusedSimpArgs false
set_option linter.unusedVariables false
namespace Go.Proofs.YtmladpbadglecaaGreatDoor
open Go.AM
set_option maxRecDepth 100000
set_option maxHeartbeats 1000000
open Go.Sort
set_option maxHeartbeats 16000000
theorem sift_i {t : Tr AObj} {K : Nat -> Prop} {r id c nx wr lo hi first n : Nat} {li hI fI : Int} {P : Array Wd} (hd : DS t K r id P) (e0 : n = P.size) (e1 : li = (lo : Int)) (e2 : hI = (hi : Int)) (e3 : fI = (first : Int)) (hK : ∀ i, K i -> i < nx /\ i ≠ r) (hr : r < nx) (hid : id < nx) (hlo : lo <= hi) (hb : first + hi <= P.size) (hz : P.size <= 64) (hN : nx + 3000000 <= BIG) (hwr : wr <= BIG) : ∃ v h', c_sift [.slice (some ⟨id, 0, none⟩) n c, .int .i64 li, .int .i64 hI, .int .i64 fI, CMPV] ⟨t, nx, wr⟩ = some (v, h') /\ ∃ t' nx' wr', h' = ⟨t', nx', wr'⟩ /\ OwnS t' r id (vals (siftDown ltW hi first lo P)) /\ Kept P (siftDown ltW hi first lo P) /\ FrX t nx wr t' nx' wr' r 2000 := by
 subst e0 e1 e2 e3
 exact sift_c hd hK hr hid hlo hb hz hN hwr
theorem build_go {hi first : Nat} {i : Int} {d : Array Wd} (h : 0 <= i) : heapBuild ltW hi first (i + 1).toNat d = heapBuild ltW hi first (i - 1 + 1).toNat (siftDown ltW hi first i.toNat d) := by
 rw [show (i + 1).toNat = i.toNat + 1 by omega, show (i - 1 + 1).toNat = i.toNat by omega]
 rfl
theorem pop_go {first : Nat} {i : Int} {d : Array Wd} (h : 0 <= i) : heapPop ltW first (i + 1).toNat d = heapPop ltW first (i - 1 + 1).toNat (siftDown ltW i.toNat first 0 (swp d first ((first : Int) + i).toNat)) := by
 rw [show (i + 1).toNat = i.toNat + 1 by omega, show (i - 1 + 1).toNat = i.toNat by omega, show ((first : Int) + i).toNat = first + i.toNat by omega]
 rfl
theorem build_end {hi first : Nat} {i : Int} {d : Array Wd} (h : i < 0) : heapBuild ltW hi first (i + 1).toNat d = d := by
 rw [show (i + 1).toNat = 0 by omega]
 rfl
theorem pop_end {first : Nat} {i : Int} {d : Array Wd} (h : i < 0) : heapPop ltW first (i + 1).toNat d = d := by
 rw [show (i + 1).toNat = 0 by omega]
 rfl
noncomputable def c_heap := cEx Tryz.prog 49 (SR (heapSort ltW) 300000)
theorem con_heap : Con Tryz.prog 49 c_heap := con_ex Tryz.func49 rfl
theorem heap_c {t : Tr AObj} {K : Nat -> Prop} {r id c nx wr a b : Nat} {P : Array Wd} (hd : DS t K r id P) (hK : ∀ i, K i -> i < nx /\ i ≠ r) (hr : r < nx) (hid : id < nx) (hab : a < b) (hb : b <= P.size) (hz : P.size <= 64) (hN : nx + 4000000 <= BIG) (hwr : wr <= BIG) : ∃ v h', c_heap [.slice (some ⟨id, 0, none⟩) P.size c, .int .i64 (a : Int), .int .i64 (b : Int), CMPV] ⟨t, nx, wr⟩ = some (v, h') /\ ∃ t' nx' wr', h' = ⟨t', nx', wr'⟩ /\ OwnS t' r id (vals ((heapSort ltW) P a b)) /\ Kept P ((heapSort ltW) P a b) /\ FrX t nx wr t' nx' wr' r 300000 := by
 have hP := Fits
 have hC : CallSound Tryz.prog (tabOf [(85, c_sift)]) := tab_sound (tab_cons con_sift tab_end)
 suffices key : SureK Tryz.prog ⟨t, nx, wr⟩ _ [] _ (EndR Tryz.prog _ (SR (heapSort ltW) 300000 [.slice (some ⟨id, 0, none⟩) P.size c, .int .i64 (a : Int), .int .i64 (b : Int), CMPV] ⟨t, nx, wr⟩)) by
  obtain ⟨v, h', q, x⟩ := sure_start (R := SR (heapSort ltW) 300000) (sz := 60) Tryz.func49 rfl rfl zo key
  exact ⟨v, h', q, x K r id c P a b rfl hd⟩
 refine s_seq (s_region hP hC (oM ?_))
 refine oA ?_
 refine o_done (se_seq (s_seq (s_region hP hC (oA ?_))))
 refine o_done (se_seq (s_seq (s_region hP hC (oM ?_))))
 refine oM ?_
 refine os (x_bin (u := .int .i64 ((b : Int) - a)) rfl zt zt (by rw [b_sub, IntWalk.i64_in _ ow])) ?_
 refine oA ?_
 refine o_done (se_seq (s_seq (s_seq (s_region hP hC (oM ?_)))))
 refine os (x_bin (u := .int .i64 ((b : Int) - a - 1)) rfl zt (by rfl) (by rw [b_sub, IntWalk.i64_in _ ow])) ?_
 refine os (x_bin (u := .int .i64 (((b : Int) - a - 1) / 2)) rfl zt (by rfl) (by rw [b_quo zd, Int.tdiv_eq_ediv_of_nonneg ow, IntWalk.i64_in _ ow])) ?_
 refine oA ?_
 refine o_done (se_seq (s_block ?_))
 refine s_loop (α := Int) (fun i s' => ∃ e t1 nx1 wq1, ∃ P1 : Array Wd, s' = ⟨e, 60, ⟨t1, nx1, wq1⟩⟩ /\ e.get 0 = some (.slice (some ⟨id, 0, none⟩) P.size c) /\ e.get 1 = some (.int .i64 (a : Int)) /\ e.get 2 = some (.int .i64 (b : Int)) /\ e.get 3 = some (CMPV) /\ e.get 8 = some (.int .i64 (a : Int)) /\ e.get 9 = some (.int .i64 0) /\ e.get 10 = some (.int .i64 ((b : Int) - a)) /\ e.get 11 = some (.int .i64 i) /\ -1 <= i /\ i < b - a /\ Kept P P1 /\ OwnS t1 r id (vals P1) /\ FrX t nx wr t1 nx1 wq1 r (2000 * (2 + (b : Int) - a - i).toNat) /\ heapBuild ltW (b - a) a (i + 1).toNat P1 = heapBuild ltW (b - a) a ((b - a - 1) / 2 + 1) P) (fun i => (i + 1).toNat) (((b : Int) - a - 1) / 2) ⟨_, _, _, _, P, rfl, hg, hg, hg, hg, hg, hg, hg, hg, by omega, by omega, ⟨rfl, fun x hx => hx⟩, hd.own, FrX.refl, by rw [show (((b : Int) - a - 1) / 2 + 1).toNat = (b - a - 1) / 2 + 1 by omega]⟩ ?_
 rintro i1 s' ⟨e, t1, nx1, wq1, P1, rfl, hea0, hea1, hea2, hea3, hea8, hea9, hea10, hea11, i01, i11, kk1, o1, hG1, hE1⟩
 have z1 := kk1.1
 have g11 := hG1.le
 have g21 := hG1.hi
 have gB1 : wq1 <= BIG := by have := hG1.whi; omega
 have d1' := hd.step (P' := P1) o1 hG1.same hK kk1.2
 refine s_seq (s_seq (s_region hP hC (oM ?_)))
 refine os (x_bin rfl za (by rfl) b_geq) ?_
 refine o_done (se_seq ?_)
 refine s_cond za (fun g2 => ?_) (fun g2 => ?_)
 ·have p2 := g2; try simp only [dd] at p2
  refine s_skip (se_seq (s_seq (s_block (s_region hP hC (oM ?_)))))
  refine oM ?_
  refine oM ?_
  refine oM ?_
  refine oM ?_
  refine o_callR (tab_hitR (sift_i (n := P.size) (li := i1) (hI := (b : Int) - a) (fI := (a : Int)) (lo := i1.toNat) (hi := b - a) (first := a) (nx := nx1) d1' ow ow ow rfl (fun i q => by have := hK i q; omega) ow ow ow ow ow ow (by have w1 := hG1.whi; (try dsimp only); omega))) (wA_none rfl) rfl rfl rfl (by simp only [evs, ev_tmp, Tr.get_set, reduceIte, Nat.reduceEqDiff, Nat.reduceAdd, hea0, hea1, hea2, hea3, hea8, hea9, hea10, hea11, g2] <;> rfl) zd (fun v1 h1 hR1 => ?_)
  obtain ⟨tc1, nc1, wc1, rfl, oc1, kc1, fc1⟩ := hR1
  have fa1 := fc1.le
  have fb1 := fc1.hi
  refine o_done (se_block (se_seq (s_region hP hC (oM ?_))))
  refine os (x_bin (u := .int .i64 (i1 - 1)) rfl za (by rfl) (by rw [b_sub, IntWalk.i64_in _ ow])) ?_
  refine oA ?_
  refine o_done ?_
  refine se_loop ?_
  refine ⟨i1 - 1, ⟨_, _, _, _, _, rfl, za, za, za, za, za, za, za, za, by omega, by omega, kk1.trans kc1, oc1, ⟨ozz, ozz, by have w1 := hG1.wlo; have w2 := hG1.whi; have w3 := fc1.wlo; have w4 := fc1.whi; (try dsimp only); omega, by have w1 := hG1.wlo; have w2 := hG1.whi; have w3 := fc1.wlo; have w4 := fc1.whi; (try dsimp only); omega, fun k q1 q2 => (fc1.same k ow q2).trans (hG1.same k q1 q2)⟩, ?_⟩, by omega⟩
  rw [<-hE1]
  exact (build_go ow).symm
 ·have p2 := g2; try simp only [dd] at p2
  refine s_exit ?_
  refine se_seq_exit ?_
  refine se_loop_exit ?_
  refine se_block_eq (se_seq (s_seq (s_region hP hC (oM ?_))))
  refine os (x_bin (u := .int .i64 ((b : Int) - a - 1)) rfl za (by rfl) (by rw [b_sub, IntWalk.i64_in _ ow])) ?_
  refine oA ?_
  refine o_done (se_seq (s_block ?_))
  refine s_loop (α := Int) (fun i s' => ∃ e t2 nx2 wq2, ∃ P2 : Array Wd, s' = ⟨e, 60, ⟨t2, nx2, wq2⟩⟩ /\ e.get 0 = some (.slice (some ⟨id, 0, none⟩) P.size c) /\ e.get 1 = some (.int .i64 (a : Int)) /\ e.get 2 = some (.int .i64 (b : Int)) /\ e.get 3 = some (CMPV) /\ e.get 8 = some (.int .i64 (a : Int)) /\ e.get 9 = some (.int .i64 0) /\ e.get 10 = some (.int .i64 ((b : Int) - a)) /\ e.get 12 = some (.int .i64 i) /\ -1 <= i /\ i < b - a /\ Kept P P2 /\ OwnS t2 r id (vals P2) /\ FrX t nx wr t2 nx2 wq2 r (2000 * (66 + (b : Int) - a - i).toNat) /\ heapPop ltW a (i + 1).toNat P2 = heapSort ltW P a b) (fun i => (i + 1).toNat) ((b : Int) - a - 1) ⟨_, _, _, _, P1, rfl, za, za, za, za, za, za, za, za, by omega, by omega, kk1, o1, hG1.low ow, by unfold heapSort; rw [<-hE1, build_end ow, show ((b : Int) - a - 1 + 1).toNat = b - a by omega]⟩ ?_
  rintro i2 s' ⟨e, t2, nx2, wq2, P2, rfl, heb0, heb1, heb2, heb3, heb8, heb9, heb10, heb12, i02, i12, kk2, o2, hG2, hE2⟩
  have z2 := kk2.1
  have g12 := hG2.le
  have g22 := hG2.hi
  have gB2 : wq2 <= BIG := by have := hG2.whi; omega
  have d2' := hd.step (P' := P2) o2 hG2.same hK kk2.2
  refine s_seq (s_seq (s_region hP hC (oM ?_)))
  refine os (x_bin rfl za (by rfl) b_geq) ?_
  refine o_done (se_seq ?_)
  refine s_cond za (fun g4 => ?_) (fun g4 => ?_)
  ·have p4 := g4; try simp only [dd] at p4
   refine s_skip (se_seq (s_seq (s_block (s_seq ?_))))
   refine s_draw hP hC zr ?_
   refine dM ?_
   refine dM ?_
   refine dM ?_
   refine dM ?_
   refine dM ?_
   refine ds (x_bin (u := .int .i64 ((a : Int) + i2)) rfl za za (by rw [b_add, IntWalk.i64_in _ ow])) ?_
   refine dM ?_
   refine dM ?_
   refine dM ?_
   refine ds (x_bin (u := .int .i64 ((a : Int) + i2)) rfl za za (by rw [b_add, IntWalk.i64_in _ ow])) ?_
   refine ds (x_index rfl za za u38 T.s22 ow ow) ?_
   refine ds (x_load1 rfl za T.g22 (l_vals o2.whole ow ow)) ?_
   refine dM ?_
   refine dM ?_
   refine ds (x_index rfl za za u38 T.s22 ow ow) ?_
   refine ds (x_load1 rfl za T.g22 (l_vals o2.whole ow ow)) ?_
   refine ds (x_index rfl za za u38 T.s22 ow ow) ?_
   have sv52 := (d2'.iv _ (mem_at (P := P2) (i := ((a : Int) + i2).toNat) ow)).1
   obtain ⟨tS52, oS52, kS52, hS52⟩ := x_storeS (P := Tryz.prog) (T := 22) (nx := nx2) (off := 0 + ((a : Int)).toNat * 1) o2 (one_cells sv52.one) T.s22 (by first | (rw [vals_len]; omega) | (rw [List.length_set, vals_len]; omega)) sv52.one
   refine d_stepN (wA_none rfl) rfl (hS52 rfl za za) ?_
   refine ds (x_index rfl za za u38 T.s22 ow ow) ?_
   have sv53 := (d2'.iv _ (mem_at (P := P2) (i := ((a : Int)).toNat) ow)).1
   obtain ⟨tS53, oS53, kS53, hS53⟩ := x_storeS (P := Tryz.prog) (T := 22) (nx := nx2) (off := 0 + ((a : Int) + i2).toNat * 1) oS52 (one_cells sv53.one) T.s22 (by first | (rw [vals_len]; omega) | (rw [List.length_set, vals_len]; omega)) sv53.one
   refine d_stepN (wA_none rfl) rfl (hS53 rfl za za) ?_
   refine d_done ⟨de_ok (tail_my (B := 0) (Y := none) (M := [0, 0, 0, 0, 0, 0, 0, 0, 0, 0, 0, 1, 0, 0, 0, 1, 0, 2, 0, 2]) (fw := 0) (my_w (my_op (my_w (my_op (my_q (my_op (my_op (my_op (my_q (my_op (my_op (my_op (my_op (my_op (my_op (my_op (my_op (my_op (my_op (my_op my_nil ow) ow) ow) ow) ow) ow) ow) ow) ow) ow) ow) ow) ow) ow) ow) ow) ow) (Nat.zero_le _) (fun y q => by cases q)) ow) (Nat.zero_le _) (fun y q => by cases q)) zd zr) (by try dsimp only; omega) (by try dsimp only; omega), ?_⟩
   refine se_seq (s_region hP hC (oM ?_))
   refine oM ?_
   refine oM ?_
   refine oM ?_
   refine oM ?_
   have oSw : OwnS tS53 r id (vals (swp P2 a ((a : Int) + i2).toNat)) := by rw [vals_swp ow ow]; rw [Nat.zero_add, Nat.mul_one, Nat.zero_add, Nat.mul_one] at oS53; exact oS53
   have kS : Kept P2 (swp P2 a ((a : Int) + i2).toNat) := ⟨size_swp .., fun x hx => mem_swp ow ow hx⟩
   have zS := kS.1
   have dSq := d2'.step (P' := swp P2 a ((a : Int) + i2).toNat) oSw (fun k q1 q2 => (kS53 k q2).trans (kS52 k q2)) hK kS.2
   refine o_callR (tab_hitR (sift_i (n := P.size) (li := 0) (hI := i2) (fI := (a : Int)) (lo := 0) (hi := i2.toNat) (first := a) (nx := nx2) dSq ow ow ow rfl (fun i q => by have := hK i q; omega) ow ow ow ow ow ow (by have w1 := hG2.whi; (try dsimp only); omega))) (wA_none rfl) rfl rfl rfl (by simp only [evs, ev_tmp, Tr.get_set, reduceIte, Nat.reduceEqDiff, Nat.reduceAdd, heb0, heb1, heb2, heb3, heb8, heb9, heb10, heb12, g4] <;> rfl) zd (fun v2 h2 hR2 => ?_)
   obtain ⟨tc2, nc2, wc2, rfl, oc2, kc2, fc2⟩ := hR2
   have fa2 := fc2.le
   have fb2 := fc2.hi
   refine o_done (se_block (se_seq (s_region hP hC (oM ?_))))
   refine os (x_bin (u := .int .i64 (i2 - 1)) rfl za (by rfl) (by rw [b_sub, IntWalk.i64_in _ ow])) ?_
   refine oA ?_
   refine o_done ?_
   refine se_loop ?_
   refine ⟨i2 - 1, ⟨_, _, _, _, _, rfl, za, za, za, za, za, za, za, za, by omega, by omega, kk2.trans (kS.trans kc2), oc2, ⟨ozz, ozz, by have w1 := hG2.wlo; have w2 := hG2.whi; have w3 := fc2.wlo; have w4 := fc2.whi; (try dsimp only); omega, by have w1 := hG2.wlo; have w2 := hG2.whi; have w3 := fc2.wlo; have w4 := fc2.whi; (try dsimp only); omega, fun k q1 q2 => (fc2.same k ow q2).trans ((kS53 k q2).trans ((kS52 k q2).trans (hG2.same k q1 q2)))⟩, ?_⟩, by omega⟩
   rw [<-hE2]
   exact (pop_go ow).symm
  ·have p4 := g4; try simp only [dd] at p4
   refine s_exit ?_
   refine se_seq_exit ?_
   refine se_loop_exit ?_
   refine se_block_eq ?_
   refine ⟨.inl rfl, _, (by simp only [Tryz.results49, resA, Tr.get_set, reduceIte, Nat.reduceEqDiff, Nat.reduceAdd, heb0, heb1, heb2, heb3, heb8, heb9, heb10, heb12, g4] <;> rfl), fun K2 r2 id2 c2 Q2 a2 b2 hs2 hd2 => ?_⟩
   obtain ⟨rfl, rfl, rfl⟩ := sr_args hs2
   obtain ⟨rfl, rfl⟩ := hd.uniq hd2
   rw [<-hE2, pop_end ow]
   exact ⟨_, _, _, rfl, o2, kk2, hG2.low ow⟩
end Go.Proofs.YtmladpbadglecaaGreatDoor
namespace Go.Proofs.YtmladpbadglecaaGreatDoor
open Go.AM
set_option maxRecDepth 100000
set_option maxHeartbeats 1000000
open Go.Sort
set_option maxHeartbeats 16000000
theorem x_nilCheck {P : Program} {call : Call'} {e : Tr Value} {h : AH} {o : Oper} {x : Operand} {id off : Nat} (ho : o.op = .nilCheck x) (hx : ev e x = some (.pointer (some ⟨id, off, none⟩))) : doOp P call e h o = some (.pointer (some ⟨id, off, none⟩), h) := by
 rw [do_op (by rw [ho]; simp), ho]
 simp only [aop, hx]
theorem DS.keepX {t t' : Tr AObj} {K : Nat -> Prop} {r id nx wr nx' wr' sw k : Nat} {P : Array Wd} (h : DS t K r id P) (hf : FrX t nx wr t' nx' wr' sw k) (hK : ∀ i, K i -> i < nx /\ i ≠ sw) (hr : r < nx /\ r ≠ sw) (hi : id < nx /\ id ≠ sw) : DS t' K r id P :=
 ⟨h.own.keep (hf.same _ hi.1 hi.2) (hf.same _ hr.1 hr.2), fun x hx => ⟨(h.iv x hx).1.keep fun i q => hf.same i (hK i q).1 (hK i q).2, (h.iv x hx).2⟩⟩
theorem own_int {t : Tr AObj} {r r' id : Nat} {n m : Int} (h : OwnS t r id [.int .i64 n]) (h' : OwnS t r' id [.int .i64 m]) : m = n := by
 have q := (h.uniq h').2
 simp only [List.cons.injEq, Value.int.injEq, and_true, true_and] at q
 exact q
def R_o2 : List Value -> AH -> Value -> AH -> Prop := fun args h v h' => ∀ id m c sw (a b n : Int), args = [.slice (some ⟨id, 0, none⟩) m c, .int .i64 (a), .int .i64 (b), .pointer (some ⟨sw, 0, none⟩), CMPV] -> OwnS h.t sw sw [.int .i64 n] -> ∃ t' nx' wr', ∃ x y n' : Int, h' = ⟨t', nx', wr'⟩ /\ v = .tuple ⟨[.int .i64 x, .int .i64 y]⟩ /\ (x = a /\ y = b \/ x = b /\ y = a) /\ n <= n' /\ n' <= n + 1 /\ OwnS t' sw sw [.int .i64 n'] /\ FrX h.t h.next h.wr t' nx' wr' sw 10
noncomputable def c_o2 := cEx Tryz.prog 127 R_o2
theorem con_o2 : Con Tryz.prog 127 c_o2 := con_ex Tryz.func127 rfl
theorem o2_c {t : Tr AObj} {K : Nat -> Prop} {nx wr : Nat} {r id m c sw : Nat} {P : Array Wd} {a b n : Int} (hd : DS t K r id P) (hK : ∀ i, K i -> i < nx /\ i ≠ r) (hr : r < nx) (hid : id < nx) (hz : P.size <= 40) (hm : m = P.size) (hw : OwnS t sw sw [.int .i64 n]) (hsw : sw < nx) (hKs : ∀ i, K i -> i ≠ sw) (hrs : r ≠ sw) (his : id ≠ sw) (n0 : 0 <= n) (n1 : n <= 100) (ha : 0 <= a /\ a < P.size) (hb : 0 <= b /\ b < P.size) (hN : nx + 3000000 <= BIG) (hwr : wr <= BIG) : ∃ v h', c_o2 [.slice (some ⟨id, 0, none⟩) m c, .int .i64 (a), .int .i64 (b), .pointer (some ⟨sw, 0, none⟩), CMPV] ⟨t, nx, wr⟩ = some (v, h') /\ ∃ t' nx' wr', ∃ x y n' : Int, h' = ⟨t', nx', wr'⟩ /\ v = .tuple ⟨[.int .i64 x, .int .i64 y]⟩ /\ (x = a /\ y = b \/ x = b /\ y = a) /\ n <= n' /\ n' <= n + 1 /\ OwnS t' sw sw [.int .i64 n'] /\ FrX t nx wr t' nx' wr' sw 10 := by
 have hP := Fits
 have hC : CallSound Tryz.prog (tabOf [(18, c_ord)]) := tab_sound (tab_cons con_ord tab_end)
 suffices key : SureK Tryz.prog ⟨t, nx, wr⟩ _ [] _ (EndR Tryz.prog _ (R_o2 [.slice (some ⟨id, 0, none⟩) m c, .int .i64 (a), .int .i64 (b), .pointer (some ⟨sw, 0, none⟩), CMPV] ⟨t, nx, wr⟩)) by
  obtain ⟨v, h', q, x⟩ := sure_start (R := R_o2) (sz := 32) Tryz.func127 rfl rfl zo key
  exact ⟨v, h', q, x id m c sw a b n rfl hw⟩
 refine s_seq (s_region hP hC (oA ?_))
 refine oA ?_
 refine o_done (se_seq (s_seq (s_seq ?_)))
 have hqB : nx <= BIG := by omega
 refine s_draw hP hC zr ?_
 refine dM ?_
 refine dM ?_
 refine dM ?_
 refine ds (x_index rfl zt zt u38 T.s22 ow ow) ?_
 refine ds (x_load1 rfl zt T.g22 (l_vals hd.own.whole ow ow)) ?_
 refine dM ?_
 refine dM ?_
 refine ds (x_index rfl zt zt u38 T.s22 ow ow) ?_
 refine ds (x_load1 rfl zt T.g22 (l_vals hd.own.whole ow ow)) ?_
 have hv11 := hd.iv _ (mem_at (P := P) (i := (b).toNat) ow)
 have hv21 := hd.iv _ (mem_at (P := P) (i := (a).toNat) ow)
 refine d_callRC (vs := [(P[(b).toNat]!).1, (P[(a).toNat]!).1]) (cap := []) (tab_hitR (ord_c (nx := nx) hv11.1 hv21.1 (fun i q => by have := hK i q; omega) hv11.2 hv21.2 ow (Nat.le_refl _))) (wA_none rfl) rfl rfl rfl zt zv zd (fun v1 ta1 na1 wa1 hR1 => ?_)
 obtain ⟨t1, nx1, wz1, he1, hf1, rfl⟩ := hR1
 cases he1
 have la1 := hf1.le
 have lb1 := hf1.hi
 have hq1 : decide (nx <= wa1) = true := decide_eq_true (by have := hf1.wlo; omega)
 have qC1 : na1 <= BIG := by omega
 have qB1 : nx <= BIG := by omega
 have ow1 := hd.own.keep (t' := ta1) (hf1.same _ ow) (hf1.same _ ow)
 have dm1 := hd.step (P' := P) ow1 (fun k q1 _ => hf1.same k ow) hK (fun x hx => hx)
 refine ds (x_bin rfl zt (by rfl) b_lss) ?_
 refine d_done ⟨de_quiet (by simp only [List.all_append, List.all_cons, List.all_nil, infOf, decide_eq_true hqB, Bool.and_self, show Inf.skip.quiet = true from rfl, hq1, decide_eq_true qB1, decide_eq_true qC1]) zBG zBG, ?_⟩
 refine se_seq ?_
 refine s_cond zt (fun g2 => ?_) (fun g2 => ?_)
 ·have p2 := g2; try simp only [dd] at p2
  refine s_seq (s_region hP hC (oM ?_))
  refine os (x_nilCheck rfl zt) ?_
  have hW := hw.keep (t' := ta1) (hf1.same _ ow) (hf1.same _ ow)
  refine os (x_load1 rfl zt T.g3 (l_all hW.whole rfl)) ?_
  refine os (x_bin (u := .int .i64 (n + 1)) rfl zt (by rfl) (by rw [b_add, IntWalk.i64_in _ ow])) ?_
  refine os (x_nilCheck rfl zt) ?_
  obtain ⟨tS, oS, kS, hS⟩ := x_storeS (P := Tryz.prog) (T := 3) (nx := na1) (off := 0) (v := .int .i64 (n + 1)) hW rfl T.s3 (by show 0 < 1; decide) rfl
  refine o_stepN (wA_none rfl) rfl (hS rfl zt zt) ?_
  refine o_done (se_seq (s_seq (s_region hP hC (oM ?_))))
  refine oM ?_
  refine oA ?_
  refine oA ?_
  refine o_done (se_seq ?_)
  refine s_ret ?_
  refine se_seq_ret ?_
  refine ⟨.inr rfl, _, (by simp only [Tryz.results127, resA, Tr.get_set, reduceIte, Nat.reduceEqDiff, Nat.reduceAdd, g2] <;> rfl), fun id2 m2 c2 sw2 a2 b2 n2 hs2 hw2 => ?_⟩
  cases hs2
  obtain rfl := own_int hw hw2
  exact ⟨_, _, _, _, _, _, rfl, rfl, .inr ⟨rfl, rfl⟩, by omega, by omega, oS, ozz, ozz, by have v1 := of_decide_eq_true hq1; (try dsimp only); omega, by have v1 := of_decide_eq_true hq1; (try dsimp only); omega, fun k (q1 : k < nx) q2 => (kS k q2).trans (hf1.same k q1)⟩
 ·have p2 := g2; try simp only [dd] at p2
  refine s_skip (se_seq (s_seq (s_region hP hC (oM ?_))))
  refine oM ?_
  refine oA ?_
  refine oA ?_
  refine o_done (se_seq ?_)
  refine s_ret ?_
  refine ⟨.inr rfl, _, (by simp only [Tryz.results127, resA, Tr.get_set, reduceIte, Nat.reduceEqDiff, Nat.reduceAdd, g2] <;> rfl), fun id2 m2 c2 sw2 a2 b2 n2 hs2 hw2 => ?_⟩
  cases hs2
  obtain rfl := own_int hw hw2
  exact ⟨_, _, _, _, _, _, rfl, rfl, .inl ⟨rfl, rfl⟩, by omega, by omega, (hw.keep (hf1.same _ ow) (hf1.same _ ow)), ozz, ozz, by have v1 := of_decide_eq_true hq1; (try dsimp only); omega, by have v1 := of_decide_eq_true hq1; (try dsimp only); omega, fun k (q1 : k < nx) q2 => hf1.same k q1⟩
def R_med : List Value -> AH -> Value -> AH -> Prop := fun args h v h' => ∀ id m c sw (a b d n : Int), args = [.slice (some ⟨id, 0, none⟩) m c, .int .i64 (a), .int .i64 (b), .int .i64 (d), .pointer (some ⟨sw, 0, none⟩), CMPV] -> OwnS h.t sw sw [.int .i64 n] -> ∃ t' nx' wr', ∃ x n' : Int, h' = ⟨t', nx', wr'⟩ /\ v = .int .i64 x /\ (x = a \/ x = b \/ x = d) /\ n <= n' /\ n' <= n + 3 /\ OwnS t' sw sw [.int .i64 n'] /\ FrX h.t h.next h.wr t' nx' wr' sw 30
noncomputable def c_med := cEx Tryz.prog 89 R_med
theorem con_med : Con Tryz.prog 89 c_med := con_ex Tryz.func89 rfl
theorem med_c {t : Tr AObj} {K : Nat -> Prop} {nx wr : Nat} {r id m c sw : Nat} {P : Array Wd} {a b d n : Int} (hd : DS t K r id P) (hK : ∀ i, K i -> i < nx /\ i ≠ r) (hr : r < nx) (hid : id < nx) (hz : P.size <= 40) (hm : m = P.size) (hw : OwnS t sw sw [.int .i64 n]) (hsw : sw < nx) (hKs : ∀ i, K i -> i ≠ sw) (hrs : r ≠ sw) (his : id ≠ sw) (n0 : 0 <= n) (n1 : n <= 90) (ha : 0 <= a /\ a < P.size) (hb : 0 <= b /\ b < P.size) (hdd : 0 <= d /\ d < P.size) (hN : nx + 3000100 <= BIG) (hwr : wr <= BIG) : ∃ v h', c_med [.slice (some ⟨id, 0, none⟩) m c, .int .i64 (a), .int .i64 (b), .int .i64 (d), .pointer (some ⟨sw, 0, none⟩), CMPV] ⟨t, nx, wr⟩ = some (v, h') /\ ∃ t' nx' wr', ∃ x n' : Int, h' = ⟨t', nx', wr'⟩ /\ v = .int .i64 x /\ (x = a \/ x = b \/ x = d) /\ n <= n' /\ n' <= n + 3 /\ OwnS t' sw sw [.int .i64 n'] /\ FrX t nx wr t' nx' wr' sw 30 := by
 have hP := Fits
 have hC : CallSound Tryz.prog (tabOf [(127, c_o2)]) := tab_sound (tab_cons con_o2 tab_end)
 suffices key : SureK Tryz.prog ⟨t, nx, wr⟩ _ [] _ (EndR Tryz.prog _ (R_med [.slice (some ⟨id, 0, none⟩) m c, .int .i64 (a), .int .i64 (b), .int .i64 (d), .pointer (some ⟨sw, 0, none⟩), CMPV] ⟨t, nx, wr⟩)) by
  obtain ⟨v, h', q, x⟩ := sure_start (R := R_med) (sz := 41) Tryz.func89 rfl rfl zo key
  exact ⟨v, h', q, x id m c sw a b d n rfl hw⟩
 refine s_seq (s_region hP hC (oA ?_))
 refine o_done (se_seq (s_seq (s_region hP hC (oM ?_))))
 refine oM ?_
 refine oM ?_
 refine oM ?_
 refine oM ?_
 refine o_callR (tab_hitR (o2_c (a := a) (b := b) (n := n) hd (fun i q => ⟨by have := (hK i q).1; omega, (hK i q).2⟩) ow ow hz hm hw ow hKs hrs his ow ow ow ow ow ow)) (wA_none rfl) rfl rfl rfl zv zd (fun v1 h1 hR1 => ?_)
 obtain ⟨t1, nx1, wr1, x1, y1, n1, rfl, rfl, hx1, hn1, hm1, ow1, fr1⟩ := hR1
 have la1 := fr1.le
 have lb1 := fr1.hi
 have lc1 : wr1 <= BIG := by have := fr1.whi; omega
 have ds1 := DS.keepX hd fr1 (fun i q => ⟨by have := (hK i q).1; omega, hKs i q⟩) ⟨by omega, hrs⟩ ⟨by omega, his⟩
 refine oM ?_
 refine os (x_extract rfl zt rfl) ?_
 refine os (x_extract rfl zt rfl) ?_
 refine oA ?_
 refine oA ?_
 refine o_done (se_seq (s_seq (s_region hP hC (oM ?_))))
 refine oM ?_
 refine oM ?_
 refine oM ?_
 refine oM ?_
 refine o_callR (tab_hitR (o2_c (a := y1) (b := d) (n := n1) ds1 (fun i q => ⟨by have := (hK i q).1; omega, (hK i q).2⟩) ow ow hz hm ow1 ow hKs hrs his ow ow ow ow ow ow)) (wA_none rfl) rfl rfl rfl zv zd (fun v2 h2 hR2 => ?_)
 obtain ⟨t2, nx2, wr2, x2, y2, n2, rfl, rfl, hx2, hn2, hm2, ow2, fr2⟩ := hR2
 have la2 := fr2.le
 have lb2 := fr2.hi
 have lc2 : wr2 <= BIG := by have := fr2.whi; omega
 have ds2 := DS.keepX ds1 fr2 (fun i q => ⟨by have := (hK i q).1; omega, hKs i q⟩) ⟨by omega, hrs⟩ ⟨by omega, his⟩
 refine oM ?_
 refine os (x_extract rfl zt rfl) ?_
 refine os (x_extract rfl zt rfl) ?_
 refine oA ?_
 refine oA ?_
 refine o_done (se_seq (s_seq (s_region hP hC (oM ?_))))
 refine oM ?_
 refine oM ?_
 refine oM ?_
 refine oM ?_
 refine o_callR (tab_hitR (o2_c (a := x1) (b := x2) (n := n2) ds2 (fun i q => ⟨by have := (hK i q).1; omega, (hK i q).2⟩) ow ow hz hm ow2 ow hKs hrs his ow ow ow ow ow ow)) (wA_none rfl) rfl rfl rfl zv zd (fun v3 h3 hR3 => ?_)
 obtain ⟨t3, nx3, wr3, x3, y3, n3, rfl, rfl, hx3, hn3, hm3, ow3, fr3⟩ := hR3
 have la3 := fr3.le
 have lb3 := fr3.hi
 have lc3 : wr3 <= BIG := by have := fr3.whi; omega
 have ds3 := DS.keepX ds2 fr3 (fun i q => ⟨by have := (hK i q).1; omega, hKs i q⟩) ⟨by omega, hrs⟩ ⟨by omega, his⟩
 refine oM ?_
 refine os (x_extract rfl zt rfl) ?_
 refine os (x_extract rfl zt rfl) ?_
 refine oA ?_
 refine oA ?_
 refine o_done (se_seq (s_seq (s_region hP hC (oM ?_))))
 refine oA ?_
 refine o_done (se_seq ?_)
 refine s_ret ?_
 refine ⟨.inr rfl, _, (by simp only [Tryz.results89, resA, Tr.get_set, reduceIte, Nat.reduceEqDiff, Nat.reduceAdd] <;> rfl), fun id2 m2 c2 sw2 a2 b2 d2 n4 hs2 hw2 => ?_⟩
 cases hs2
 obtain rfl := own_int hw hw2
 exact ⟨_, _, _, _, _, rfl, rfl, by omega, by omega, by omega, ow3, FrX.trans (FrX.trans fr1 fr2 (Nat.le_refl _)) fr3 zd⟩
def R_piv : List Value -> AH -> Value -> AH -> Prop := fun args h v h' => ∀ id m c (a b : Int), args = [.slice (some ⟨id, 0, none⟩) m c, .int .i64 (a), .int .i64 (b), CMPV] -> a < b -> ∃ t' nx' wr', ∃ x k : Int, h' = ⟨t', nx', wr'⟩ /\ v = .tuple ⟨[.int .i64 x, .int .i64 k]⟩ /\ a <= x /\ x < b /\ 0 <= k /\ k <= 2 /\ Fr h.t h.next h.wr t' nx' wr' 40
noncomputable def c_piv := cEx Tryz.prog 51 R_piv
theorem con_piv : Con Tryz.prog 51 c_piv := con_ex Tryz.func51 rfl
theorem piv_c {t : Tr AObj} {K : Nat -> Prop} {nx wr : Nat} {r id m c : Nat} {P : Array Wd} {a b : Int} (hd : DS t K r id P) (hK : ∀ i, K i -> i < nx /\ i ≠ r) (hr : r < nx) (hid : id < nx) (hz : P.size <= 40) (hm : m = P.size) (ha : 0 <= a) (hab : a < b) (hb : b <= P.size) (hN : nx + 3000200 <= BIG) (hwr : wr <= BIG) : ∃ v h', c_piv [.slice (some ⟨id, 0, none⟩) m c, .int .i64 (a), .int .i64 (b), CMPV] ⟨t, nx, wr⟩ = some (v, h') /\ ∃ t' nx' wr', ∃ x k : Int, h' = ⟨t', nx', wr'⟩ /\ v = .tuple ⟨[.int .i64 x, .int .i64 k]⟩ /\ a <= x /\ x < b /\ 0 <= k /\ k <= 2 /\ Fr t nx wr t' nx' wr' 40 := by
 have hP := Fits
 have hC : CallSound Tryz.prog (tabOf [(89, c_med)]) := tab_sound (tab_cons con_med tab_end)
 suffices key : SureK Tryz.prog ⟨t, nx, wr⟩ _ [] _ (EndR Tryz.prog _ (R_piv [.slice (some ⟨id, 0, none⟩) m c, .int .i64 (a), .int .i64 (b), CMPV] ⟨t, nx, wr⟩)) by
  obtain ⟨v, h', q, x⟩ := sure_start (R := R_piv) (sz := 63) Tryz.func51 rfl rfl zo key
  exact ⟨v, h', q, x id m c a b rfl hab⟩
 refine s_seq (s_region hP hC (oA ?_))
 refine oA ?_
 refine o_done (se_seq (s_seq (s_region hP hC (oM ?_))))
 refine oM ?_
 refine os (x_bin (u := .int .i64 (b - a)) rfl zt zt (by rw [b_sub, IntWalk.i64_in _ ow])) ?_
 refine oA ?_
 refine o_done (se_seq (s_seq (s_region hP hC ?_)))
 refine os (y_alloc rfl T.z3 rfl rfl) ?_
 refine o_done (se_seq (s_seq (s_region hP hC (oM ?_))))
 refine oM ?_
 refine os (x_bin (u := .int .i64 ((b - a) / 4)) rfl zt (by rfl) (by rw [b_quo zd, Int.tdiv_eq_ediv_of_nonneg ow, IntWalk.i64_in _ ow])) ?_
 refine os (x_bin (u := .int .i64 (((b - a) / 4) * 1)) rfl zt (by rfl) (by rw [b_mul, IntWalk.i64_in _ ow])) ?_
 refine os (x_bin (u := .int .i64 (a + ((b - a) / 4) * 1)) rfl zt zt (by rw [b_add, IntWalk.i64_in _ ow])) ?_
 refine oA ?_
 refine o_done (se_seq (s_seq (s_region hP hC (oM ?_))))
 refine oM ?_
 refine os (x_bin (u := .int .i64 ((b - a) / 4)) rfl zt (by rfl) (by rw [b_quo zd, Int.tdiv_eq_ediv_of_nonneg ow, IntWalk.i64_in _ ow])) ?_
 refine os (x_bin (u := .int .i64 (((b - a) / 4) * 2)) rfl zt (by rfl) (by rw [b_mul, IntWalk.i64_in _ ow])) ?_
 refine os (x_bin (u := .int .i64 (a + ((b - a) / 4) * 2)) rfl zt zt (by rw [b_add, IntWalk.i64_in _ ow])) ?_
 refine oA ?_
 refine o_done (se_seq (s_seq (s_region hP hC (oM ?_))))
 refine oM ?_
 refine os (x_bin (u := .int .i64 ((b - a) / 4)) rfl zt (by rfl) (by rw [b_quo zd, Int.tdiv_eq_ediv_of_nonneg ow, IntWalk.i64_in _ ow])) ?_
 refine os (x_bin (u := .int .i64 (((b - a) / 4) * 3)) rfl zt (by rfl) (by rw [b_mul, IntWalk.i64_in _ ow])) ?_
 refine os (x_bin (u := .int .i64 (a + ((b - a) / 4) * 3)) rfl zt zt (by rw [b_add, IntWalk.i64_in _ ow])) ?_
 refine oA ?_
 refine o_done (se_seq (s_seq (s_seq (s_region hP hC (oM ?_)))))
 refine os (x_bin rfl zt (by rfl) b_geq) ?_
 refine o_done (se_seq ?_)
 refine s_cond zt (fun g2 => ?_) (fun g2 => ?_)
 ·have p2 := g2; try simp only [dd] at p2
  refine s_seq (s_seq (s_region hP hC (oM ?_)))
  refine os (x_bin (u := .bool false) rfl zt (by rfl) (by rw [b_geq, decide_eq_false ow])) ?_
  refine o_done (se_seq ?_)
  refine s_condF zt ?_
  refine s_skip (se_seq (s_region hP hC (oM ?_)))
  refine oM ?_
  refine oM ?_
  refine oM ?_
  refine oM ?_
  have hO : OwnS (t.set nx (.row [.int .i64 0] nx BIG false 1)) nx nx [.int .i64 0] := ⟨BIG, 0, .inl ⟨rfl, by rw [gp rfl]; rfl⟩⟩
  have hD : DS (t.set nx (.row [.int .i64 0] nx BIG false 1)) K r id P := hd.keepX (nx := nx) (wr := wr) (sw := nx) (k := 1) (nx' := nx + 1) (wr' := wr) ⟨by omega, by omega, by omega, by omega, fun i q1 q2 => by rw [Tr.get_set, if_neg q2]⟩ (fun i q => ⟨(hK i q).1, by have := (hK i q).1; omega⟩) ⟨hr, by omega⟩ ⟨hid, by omega⟩
  refine o_callR (tab_hitR (med_c (a := a + ((b - a) / 4) * 1) (b := a + ((b - a) / 4) * 2) (d := a + ((b - a) / 4) * 3) (n := 0) hD (fun i q => ⟨by have := (hK i q).1; omega, (hK i q).2⟩) ow ow hz hm hO ow (fun i q => by have := (hK i q).1; omega) ow ow ow ow ow ow ow ow ow)) (wA_none rfl) rfl rfl rfl zv zd (fun v1 h1 hR1 => ?_)
  obtain ⟨t1, nx1, wr1, x1, n1, rfl, rfl, hx1, hn1, hm1, ow1, fr1⟩ := hR1
  have la1 := fr1.le
  have lb1 := fr1.hi
  have lc1 := fr1.wlo
  have ld1 := fr1.whi
  refine oA ?_
  refine o_done (se_seq (s_seq (s_region hP hC ?_)))
  refine os (x_load1 rfl zt T.g3 (l_all ow1.whole rfl)) ?_
  refine o_done (se_seq (s_block (s_seq (s_region hP hC ?_))))
  refine os (x_bin rfl zt (by rfl) b_eql) ?_
  refine oA ?_
  refine o_done (se_seq ?_)
  refine s_cond zt (fun g4 => ?_) (fun g4 => ?_)
  ·have p4 := g4; try simp only [dd] at p4
   refine s_seq (s_region hP hC (oM ?_))
   refine oA ?_
   refine oA ?_
   refine o_done (se_seq ?_)
   refine s_ret ?_
   refine se_block_ret ?_
   refine ⟨.inr rfl, _, (by simp only [Tryz.results51, resA, Tr.get_set, reduceIte, Nat.reduceEqDiff, Nat.reduceAdd, g2, g4] <;> rfl), fun id2 m2 c2 a2 b2 hs2 hl2 => ?_⟩
   cases hs2
   exact ⟨_, _, _, _, _, rfl, rfl, by omega, by omega, by omega, by omega, ⟨ozz, ozz, ozz, ozz, fun k (q : k < nx) => (fr1.same k ow ow).trans (by rw [gn ow])⟩⟩
  ·have p4 := g4; try simp only [dd] at p4
   refine s_seq (s_region hP hC ?_)
   refine os (x_bin rfl zt (by rfl) b_eql) ?_
   refine oA ?_
   refine o_done (se_seq ?_)
   refine s_cond zt (fun g6 => ?_) (fun g6 => ?_)
   ·have p6 := g6; try simp only [dd] at p6
    refine s_seq (s_region hP hC (oM ?_))
    refine oA ?_
    refine oA ?_
    refine o_done (se_seq ?_)
    refine s_ret ?_
    refine se_block_ret ?_
    refine ⟨.inr rfl, _, (by simp only [Tryz.results51, resA, Tr.get_set, reduceIte, Nat.reduceEqDiff, Nat.reduceAdd, g2, g4, g6] <;> rfl), fun id2 m2 c2 a2 b2 hs2 hl2 => ?_⟩
    cases hs2
    exact ⟨_, _, _, _, _, rfl, rfl, by omega, by omega, by omega, by omega, ⟨ozz, ozz, ozz, ozz, fun k (q : k < nx) => (fr1.same k ow ow).trans (by rw [gn ow])⟩⟩
   ·have p6 := g6; try simp only [dd] at p6
    refine s_seq (s_region hP hC (oM ?_))
    refine oA ?_
    refine oA ?_
    refine o_done (se_seq ?_)
    refine s_ret ?_
    refine se_block_ret ?_
    refine ⟨.inr rfl, _, (by simp only [Tryz.results51, resA, Tr.get_set, reduceIte, Nat.reduceEqDiff, Nat.reduceAdd, g2, g4, g6] <;> rfl), fun id2 m2 c2 a2 b2 hs2 hl2 => ?_⟩
    cases hs2
    exact ⟨_, _, _, _, _, rfl, rfl, by omega, by omega, by omega, by omega, ⟨ozz, ozz, ozz, ozz, fun k (q : k < nx) => (fr1.same k ow ow).trans (by rw [gn ow])⟩⟩
 ·have p2 := g2; try simp only [dd] at p2
  refine s_skip (se_seq (s_seq (s_region hP hC ?_)))
  refine os (x_load1 (v := .int .i64 0) rfl zt T.g3 (l_all (whole_row (show (t.set nx (.row [.int .i64 0] nx BIG false 1)).get nx = some (.row [.int .i64 0] nx BIG false 1) from by rw [gp rfl]) rfl) rfl)) ?_
  refine o_done (se_seq (s_block (s_seq (s_region hP hC ?_))))
  refine os (x_bin rfl zt (by rfl) b_eql) ?_
  refine oA ?_
  refine o_done (se_seq ?_)
  refine s_cond zt (fun g8 => ?_) (fun g8 => ?_)
  ·have p8 := g8; try simp only [dd] at p8
   refine s_seq (s_region hP hC (oM ?_))
   refine oA ?_
   refine oA ?_
   refine o_done (se_seq ?_)
   refine s_ret ?_
   refine se_block_ret ?_
   refine ⟨.inr rfl, _, (by simp only [Tryz.results51, resA, Tr.get_set, reduceIte, Nat.reduceEqDiff, Nat.reduceAdd, g2, g8] <;> rfl), fun id2 m2 c2 a2 b2 hs2 hl2 => ?_⟩
   cases hs2
   exact ⟨_, _, _, _, _, rfl, rfl, by omega, by omega, by omega, by omega, ⟨ozz, ozz, ozz, ozz, fun k (q : k < nx) => by rw [gn ow]⟩⟩
  ·have p8 := g8; try simp only [dd] at p8
   refine s_seq (s_region hP hC ?_)
   refine os (x_bin rfl zt (by rfl) b_eql) ?_
   refine oA ?_
   refine o_done (se_seq ?_)
   refine s_cond zt (fun g10 => ?_) (fun g10 => ?_)
   ·have p10 := g10; try simp only [dd] at p10
    refine s_seq (s_region hP hC (oM ?_))
    refine oA ?_
    refine oA ?_
    refine o_done (se_seq ?_)
    refine s_ret ?_
    refine se_block_ret ?_
    refine ⟨.inr rfl, _, (by simp only [Tryz.results51, resA, Tr.get_set, reduceIte, Nat.reduceEqDiff, Nat.reduceAdd, g2, g8, g10] <;> rfl), fun id2 m2 c2 a2 b2 hs2 hl2 => ?_⟩
    cases hs2
    exact ⟨_, _, _, _, _, rfl, rfl, by omega, by omega, by omega, by omega, ⟨ozz, ozz, ozz, ozz, fun k (q : k < nx) => by rw [gn ow]⟩⟩
   ·have p10 := g10; try simp only [dd] at p10
    refine s_seq (s_region hP hC (oM ?_))
    refine oA ?_
    refine oA ?_
    refine o_done (se_seq ?_)
    refine s_ret ?_
    refine se_block_ret ?_
    refine ⟨.inr rfl, _, (by simp only [Tryz.results51, resA, Tr.get_set, reduceIte, Nat.reduceEqDiff, Nat.reduceAdd, g2, g8, g10] <;> rfl), fun id2 m2 c2 a2 b2 hs2 hl2 => ?_⟩
    cases hs2
    exact ⟨_, _, _, _, _, rfl, rfl, by omega, by omega, by omega, by omega, ⟨ozz, ozz, ozz, ozz, fun k (q : k < nx) => by rw [gn ow]⟩⟩
end Go.Proofs.YtmladpbadglecaaGreatDoor
