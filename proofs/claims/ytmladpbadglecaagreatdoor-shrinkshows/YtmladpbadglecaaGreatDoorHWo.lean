/-
  A list sorted.
-/
import Derived.Test.YtmladpbadglecaaGreatDoorHWi
import Derived.Test.YtmladpbadglecaaGreatDoorHWm
set_option linter.unusedSimpArgs false
set_option linter.unusedVariables false
namespace Go.Proofs.YtmladpbadglecaaGreatDoor
open Go.AM
set_option maxRecDepth 100000
set_option maxHeartbeats 1000000
open Go.Sort
set_option maxHeartbeats 16000000
theorem ins_i {t : Tr AObj} {K : Nat -> Prop} {r id n c nx wr : Nat} {P : Array Wd} {a b : Int} (hd : DS t K r id P) (e0 : n = P.size) (hK : ∀ i, K i -> i < nx /\ i ≠ r) (hr : r < nx) (hid : id < nx) (hz : P.size <= 40) (ha : 0 <= a) (hab : a <= b) (hb : b <= P.size) (hN : nx + 4000000 <= BIG) (hwr : wr <= BIG) : ∃ v h', c_ins [.slice (some ⟨id, 0, none⟩) n c, .int .i64 a, .int .i64 b, CMPV] ⟨t, nx, wr⟩ = some (v, h') /\ ∃ t' nx' wr' P', h' = ⟨t', nx', wr'⟩ /\ OwnS t' r id (vals P') /\ PermIn a.toNat b.toNat P P' /\ SortedIn ltW a.toNat b.toNat P' /\ FrX t nx wr t' nx' wr' r 80000 := by
 obtain ⟨x, rfl⟩ : ∃ x : Nat, a = x := ⟨a.toNat, by omega⟩
 obtain ⟨y, rfl⟩ : ∃ y : Nat, b = y := ⟨b.toNat, by omega⟩
 subst e0
 obtain ⟨v, h', q, t', nx', wr', e, o, kk, f⟩ := ins_c (c := c) (a := x) (b := y) hd hK hr hid ow ow ow hN hwr
 exact ⟨v, h', q, t', nx', wr', _, e, o, (insertionSort_holds swo P x y ow ow).1, (insertionSort_holds swo P x y ow ow).2, f⟩
theorem heap_i {t : Tr AObj} {K : Nat -> Prop} {r id n c nx wr : Nat} {P : Array Wd} {a b : Int} (hd : DS t K r id P) (e0 : n = P.size) (hK : ∀ i, K i -> i < nx /\ i ≠ r) (hr : r < nx) (hid : id < nx) (hz : P.size <= 40) (ha : 0 <= a) (hab : a < b) (hb : b <= P.size) (hN : nx + 4000000 <= BIG) (hwr : wr <= BIG) : ∃ v h', c_heap [.slice (some ⟨id, 0, none⟩) n c, .int .i64 a, .int .i64 b, CMPV] ⟨t, nx, wr⟩ = some (v, h') /\ ∃ t' nx' wr' P', h' = ⟨t', nx', wr'⟩ /\ OwnS t' r id (vals P') /\ PermIn a.toNat b.toNat P P' /\ SortedIn ltW a.toNat b.toNat P' /\ FrX t nx wr t' nx' wr' r 300000 := by
 obtain ⟨x, rfl⟩ : ∃ x : Nat, a = x := ⟨a.toNat, by omega⟩
 obtain ⟨y, rfl⟩ : ∃ y : Nat, b = y := ⟨b.toNat, by omega⟩
 subst e0
 obtain ⟨v, h', q, t', nx', wr', e, o, kk, f⟩ := heap_c (c := c) (a := x) (b := y) hd hK hr hid ow ow ow hN hwr
 exact ⟨v, h', q, t', nx', wr', _, e, o, (heapSort_holds swo P x y ow ow).1, (heapSort_holds swo P x y ow ow).2, f⟩
theorem rev_i {t : Tr AObj} {K : Nat -> Prop} {r id n c nx wr : Nat} {P : Array Wd} {a b : Int} (hd : DS t K r id P) (e0 : n = P.size) (hK : ∀ i, K i -> i < nx /\ i ≠ r) (hr : r < nx) (hid : id < nx) (hz : P.size <= 40) (ha : 0 <= a) (hab : a <= b) (hb : b <= P.size) (hN : nx + 4000000 <= BIG) (hwr : wr <= BIG) : ∃ v h', c_rev [.slice (some ⟨id, 0, none⟩) n c, .int .i64 a, .int .i64 b, CMPV] ⟨t, nx, wr⟩ = some (v, h') /\ ∃ t' nx' wr' P', h' = ⟨t', nx', wr'⟩ /\ OwnS t' r id (vals P') /\ PermIn a.toNat b.toNat P P' /\ FrX t nx wr t' nx' wr' r 10 := by
 obtain ⟨x, rfl⟩ : ∃ x : Nat, a = x := ⟨a.toNat, by omega⟩
 obtain ⟨y, rfl⟩ : ∃ y : Nat, b = y := ⟨b.toNat, by omega⟩
 subst e0
 obtain ⟨v, h', q, t', nx', wr', e, o, kk, f⟩ := rev_c (c := c) (a := x) (b := y) hd hK hr hid ow ow ow hN hwr
 exact ⟨v, h', q, t', nx', wr', _, e, o, reverseRange_holds P x y ow ow, f⟩
theorem bp_i {t : Tr AObj} {K : Nat -> Prop} {r id n c nx wr : Nat} {P : Array Wd} {a b : Int} (hd : DS t K r id P) (e0 : n = P.size) (hK : ∀ i, K i -> i < nx /\ i ≠ r) (hr : r < nx) (hid : id < nx) (hz : P.size <= 40) (ha : 0 <= a) (hab : a + 8 <= b) (hb : b <= P.size) (hN : nx + 4000000 <= BIG) (hwr : wr <= BIG) : ∃ v h', c_bp [.slice (some ⟨id, 0, none⟩) n c, .int .i64 a, .int .i64 b, CMPV] ⟨t, nx, wr⟩ = some (v, h') /\ ∃ t' nx' wr' P', h' = ⟨t', nx', wr'⟩ /\ PermIn a.toNat b.toNat P P' /\ OwnS t' r id (vals P') /\ FrX t nx wr t' nx' wr' r 10 := by
 subst e0
 exact bp_c hd hK hr hid hz ha hab hb hN hwr
theorem pi_i {t : Tr AObj} {K : Nat -> Prop} {r id n c nx wr : Nat} {P : Array Wd} {a b : Int} (hd : DS t K r id P) (e0 : n = P.size) (hK : ∀ i, K i -> i < nx /\ i ≠ r) (hr : r < nx) (hid : id < nx) (hz : P.size <= 40) (ha : 0 <= a) (hab : a < b) (hb : b <= P.size) (hN : nx + 4000000 <= BIG) (hwr : wr <= BIG) : ∃ v h', c_pi [.slice (some ⟨id, 0, none⟩) n c, .int .i64 a, .int .i64 b, CMPV] ⟨t, nx, wr⟩ = some (v, h') /\ ∃ t' nx' wr', ∃ q : Bool, h' = ⟨t', nx', wr'⟩ /\ v = .bool q /\ (q = true -> SortedIn ltW a.toNat b.toNat P) /\ OwnS t' r id (vals P) /\ FrX t nx wr t' nx' wr' r 1000 := by
 subst e0
 exact pi_c hd hK hr hid hz ha hab hb hN hwr
theorem pe_i {t : Tr AObj} {K : Nat -> Prop} {r id n c nx wr : Nat} {P : Array Wd} {a b : Int} {p : Int} (hd : DS t K r id P) (e0 : n = P.size) (hK : ∀ i, K i -> i < nx /\ i ≠ r) (hr : r < nx) (hid : id < nx) (hz : P.size <= 40) (ha : 0 <= a) (hap : a <= p) (hpb : p < b) (hb : b <= P.size) (hN : nx + 4000000 <= BIG) (hwr : wr <= BIG) : ∃ v h', c_pe [.slice (some ⟨id, 0, none⟩) n c, .int .i64 a, .int .i64 b, .int .i64 p, CMPV] ⟨t, nx, wr⟩ = some (v, h') /\ ∃ t' nx' wr', ∃ m : Int, ∃ P4, h' = ⟨t', nx', wr'⟩ /\ v = .int .i64 m /\ 0 <= m /\ partitionEqual ltW P a.toNat b.toNat p.toNat = (m.toNat, P4) /\ OwnS t' r id (vals P4) /\ Kept P P4 /\ FrX t nx wr t' nx' wr' r 8000 := by
 subst e0
 exact pe_c hd hK hr hid hz ha hap hpb hb hN hwr
theorem pt_i {t : Tr AObj} {K : Nat -> Prop} {r id n c nx wr : Nat} {P : Array Wd} {a b : Int} {p : Int} (hd : DS t K r id P) (e0 : n = P.size) (hK : ∀ i, K i -> i < nx /\ i ≠ r) (hr : r < nx) (hid : id < nx) (hz : P.size <= 40) (ha : 0 <= a) (hap : a <= p) (hpb : p < b) (hb : b <= P.size) (hN : nx + 4000000 <= BIG) (hwr : wr <= BIG) : ∃ v h', c_pt [.slice (some ⟨id, 0, none⟩) n c, .int .i64 a, .int .i64 b, .int .i64 p, CMPV] ⟨t, nx, wr⟩ = some (v, h') /\ ∃ t' nx' wr', ∃ m : Int, ∃ q P4, h' = ⟨t', nx', wr'⟩ /\ v = .tuple ⟨[.int .i64 m, .bool q]⟩ /\ 0 <= m /\ Go.Sort.partition ltW P a.toNat b.toNat p.toNat = (m.toNat, q, P4) /\ OwnS t' r id (vals P4) /\ Kept P P4 /\ FrX t nx wr t' nx' wr' r 8000 := by
 subst e0
 exact pt_c hd hK hr hid hz ha hap hpb hb hN hwr
theorem p4_args {id id2 n n2 c c2 : Nat} {a a2 b b2 l l2 : Int} {x : Value} (h : [Value.slice (some ⟨id, 0, none⟩) n c, .int .i64 a, .int .i64 b, .int .i64 l, x] = [.slice (some ⟨id2, 0, none⟩) n2 c2, .int .i64 a2, .int .i64 b2, .int .i64 l2, x]) : id2 = id /\ a2 = a /\ b2 = b := ⟨(p3_args h).1, (p3_args h).2.1, (p3_args h).2.2.1⟩
def R_pdq : List Value -> AH -> Value -> AH -> Prop := fun args h v h' => ∀ K r id c (P : Array Wd) (a b l : Int), args = [.slice (some ⟨id, 0, none⟩) P.size c, .int .i64 a, .int .i64 b, .int .i64 l, CMPV] -> DS h.t K r id P -> ∃ t' nx' wr' P', h' = ⟨t', nx', wr'⟩ /\ OwnS t' r id (vals P') /\ PermIn a.toNat b.toNat P P' /\ SortedIn ltW a.toNat b.toNat P' /\ FrX h.t h.next h.wr t' nx' wr' r (800000 * (b - a).toNat + 400000)
noncomputable def c_pdq := cEx Tryz.prog 34 R_pdq
theorem con_pdq : Con Tryz.prog 34 c_pdq := con_ex Tryz.func34 rfl
def PDQ (s : Nat) : Prop := ∀ {t : Tr AObj} {K : Nat -> Prop} {r id n c nx wr : Nat} {P : Array Wd} {a b : Int} {l : Int}, DS t K r id P -> n = P.size -> (∀ i, K i -> i < nx /\ i ≠ r) -> r < nx -> id < nx -> P.size <= 40 -> 0 <= a -> a <= b -> b <= P.size -> Below ltW a.toNat b.toNat P -> 0 <= l -> l <= 100 -> (b - a).toNat < s -> nx + 800000 * (b - a).toNat + 8000000 <= BIG -> wr <= BIG -> ∃ v h', c_pdq [.slice (some ⟨id, 0, none⟩) n c, .int .i64 a, .int .i64 b, .int .i64 l, CMPV] ⟨t, nx, wr⟩ = some (v, h') /\ ∃ t' nx' wr' P', h' = ⟨t', nx', wr'⟩ /\ OwnS t' r id (vals P') /\ PermIn a.toNat b.toNat P P' /\ SortedIn ltW a.toNat b.toNat P' /\ FrX t nx wr t' nx' wr' r (800000 * (b - a).toNat + 400000)
theorem FrX.trans2 {t t' t2 : Tr AObj} {nx wr nx' wr' nx2 wr2 r k k2 : Nat} (h : FrX t nx wr t' nx' wr' r k) (h2 : FrX t' nx' wr' t2 nx2 wr2 r k2) : FrX t nx wr t2 nx2 wr2 r (k + k2) := FrX.trans h h2 (Nat.le_refl _)
theorem budget {u w : Int} (hu : 0 <= u) (hw : 0 <= w) : (800000 * u + 10000).toNat + (800000 * w.toNat + 400000) <= (800000 * (u + w + 1)).toNat := by
 obtain ⟨x, rfl⟩ : ∃ x : Nat, u = x := ⟨u.toNat, by omega⟩
 obtain ⟨y, rfl⟩ : ∃ y : Nat, w = y := ⟨w.toNat, by omega⟩
 rw [show (800000 * (x : Int) + 10000).toNat = 800000 * x + 10000 by omega, show (800000 * ((x : Int) + y + 1)).toNat = 800000 * (x + y + 1) by omega, Int.toNat_natCast]
 omega
theorem eq_facts {x p : Int} {C : Array Wd} (h : (decide (0 < x) && !lessW (C[(x - 1).toNat]!).2 (C[p.toNat]!).2) = true) : 0 < x /\ ltW C[x.toNat - 1]! C[p.toNat]! = false := by
 rw [Bool.and_eq_true, Bool.not_eq_true'] at h
 have h1 := of_decide_eq_true h.1
 rw [show x.toNat - 1 = (x - 1).toNat by omega]
 exact ⟨h1, h.2⟩
theorem pdq_step {s : Nat} (ih : PDQ s) : PDQ (s + 1) := by
 intro t K r id n c nx wr P a b l0 hd e0 hK hr hid hz ha hab hb hB0 hl0 hl1 hs hN hwr
 subst e0
 have hP := Fits
 have hC : CallSound Tryz.prog (tabOf [(18, c_ord), (48, c_ins), (49, c_heap), (50, c_bp), (51, c_piv), (52, c_rev), (53, c_pi), (54, c_pe), (55, c_pt), (34, c_pdq)]) := tab_sound (tab_cons con_ord (tab_cons con_ins (tab_cons con_heap (tab_cons con_bp (tab_cons con_piv (tab_cons con_rev (tab_cons con_pi (tab_cons con_pe (tab_cons con_pt (tab_cons con_pdq tab_end))))))))))
 suffices key : SureK Tryz.prog ⟨t, nx, wr⟩ _ [] _ (EndR Tryz.prog _ (R_pdq [.slice (some ⟨id, 0, none⟩) P.size c, .int .i64 a, .int .i64 b, .int .i64 l0, CMPV] ⟨t, nx, wr⟩)) by
  obtain ⟨v, h', q, x⟩ := sure_start (R := R_pdq) (sz := 148) Tryz.func34 rfl rfl zo key
  exact ⟨v, h', q, x K r id c P a b l0 rfl hd⟩
 refine s_seq (s_region hP hC (oA ?_))
 refine o_done (se_seq (s_seq (s_region hP hC (oA ?_))))
 refine o_done (se_seq (s_block ?_))
 refine s_loop (α := Int × Int × Int) (fun (z : Int × Int × Int) s' => ∃ e tA nxA wqA wb wp, ∃ A : Array Wd, s' = ⟨e, 148, ⟨tA, nxA, wqA⟩⟩ /\ e.get 0 = some (.slice (some ⟨id, 0, none⟩) P.size c) /\ e.get 4 = some (CMPV) /\ e.get 1 = some (.int .i64 (z.1)) /\ e.get 2 = some (.int .i64 (z.2.1)) /\ e.get 3 = some (.int .i64 (z.2.2)) /\ e.get 10 = some (.bool wb) /\ e.get 11 = some (.bool wp) /\ a <= z.1 /\ z.1 <= z.2.1 /\ z.2.1 <= b /\ 0 <= z.2.2 /\ z.2.2 <= 100 /\ Kept P A /\ OwnS tA r id (vals A) /\ FrX t nx wr tA nxA wqA r (800000 * ((b - a) - (z.2.1 - z.1))).toNat /\ Below ltW z.1.toNat z.2.1.toNat A /\ ∀ R, PermIn z.1.toNat z.2.1.toNat A R -> SortedIn ltW z.1.toNat z.2.1.toNat R -> PermIn a.toNat b.toNat P R /\ SortedIn ltW a.toNat b.toNat R) (fun z => (z.2.1 - z.1).toNat) (a, b, l0) ⟨_, _, _, _, true, true, P, rfl, hg, hg, hg, hg, hg, hg, hg, by dsimp only; omega, by dsimp only; omega, by dsimp only; omega, by dsimp only; omega, by dsimp only; omega, ⟨rfl, fun x hx => hx⟩, hd.own, FrX.low (FrX.refl (k := 0)) (Nat.zero_le _), hB0, fun R h1 h2 => ⟨h1, h2⟩⟩ ?_
 rintro ⟨x, y, l⟩ s' ⟨e, tA, nxA, wqA, wb, wp, A, rfl, heA0, heA4, heA1, heA2, heA3, heA10, heA11, x0, x1, x2, l2, l3, kkA, oAq, hGA, hBA, hFA⟩
 dsimp only at heA0 heA4 heA1 heA2 heA3 heA10 heA11 x0 x1 x2 l2 l3 kkA oAq hGA hBA hFA
 have zA := kkA.1
 have gaA := hGA.le
 have gbA := hGA.hi
 have gcA := hGA.wlo
 have gdA := hGA.whi
 have dA := hd.step (P' := A) oAq hGA.same hK kkA.2
 refine s_block (s_seq (s_region hP hC (oM ?_)))
 refine oM ?_
 refine os (x_bin (u := .int .i64 (y - x)) rfl za za (by rw [b_sub, IntWalk.i64_in _ ow])) ?_
 refine oA ?_
 refine o_done (se_seq (s_seq (s_seq (s_region hP hC (oM ?_)))))
 refine os (x_bin rfl za (by rfl) b_leq) ?_
 refine o_done (se_seq ?_)
 refine s_cond za (fun g4 => ?_) (fun g4 => ?_)
 ·have p4 := g4; try simp only [dd] at p4
  refine s_seq (s_region hP hC (oM ?_))
  refine oM ?_
  refine oM ?_
  refine oM ?_
  refine o_callR (tab_missR zd (tab_hitR (ins_i (a := x) (b := y) dA kkA.1.symm (fun i q => ⟨by have := (hK i q).1; omega, (hK i q).2⟩) ow ow ow ow ow ow ow ow))) (wA_none rfl) rfl rfl rfl (by simp only [evs, ev_tmp, Tr.get_set, reduceIte, Nat.reduceEqDiff, Nat.reduceAdd, heA0, heA4, heA1, heA2, heA3, heA10, heA11, g4] <;> rfl) zd (fun v30 h30 hR30 => ?_)
  obtain ⟨t1, nx1, w1, R1, rfl, o1, hP1, hS1, f1⟩ := hR30
  refine o_done (se_seq ?_)
  refine s_ret ?_
  refine se_seq_ret ?_
  refine se_block_ret ?_
  refine se_loop_ret ?_
  refine se_block_ret ?_
  refine ⟨.inr rfl, _, (by simp only [Tryz.results34, resA, Tr.get_set, reduceIte, Nat.reduceEqDiff, Nat.reduceAdd, heA0, heA4, heA1, heA2, heA3, heA10, heA11, g4] <;> rfl), fun K2 r2 id2 c2 Q2 a2 b2 l2 hs2 hd2 => ?_⟩
  obtain ⟨rfl, rfl, rfl⟩ := p4_args hs2
  obtain ⟨rfl, rfl⟩ := hd.uniq hd2
  exact ⟨_, _, _, _, rfl, o1, (hFA R1 hP1 hS1).1, (hFA R1 hP1 hS1).2, FrX.trans hGA f1 ow⟩
 ·have p4 := g4; try simp only [dd] at p4
  refine s_skip (se_seq (s_seq (s_seq (s_region hP hC (oM ?_)))))
  refine os (x_bin rfl za (by rfl) b_eql) ?_
  refine o_done (se_seq ?_)
  refine s_cond za (fun g6 => ?_) (fun g6 => ?_)
  ·have p6 := g6; try simp only [dd] at p6
   refine s_seq (s_region hP hC (oM ?_))
   refine oM ?_
   refine oM ?_
   refine oM ?_
   refine o_callR (tab_missR zd (tab_missR zd (tab_hitR (heap_i (a := x) (b := y) dA kkA.1.symm (fun i q => ⟨by have := (hK i q).1; omega, (hK i q).2⟩) ow ow ow ow ow ow ow ow)))) (wA_none rfl) rfl rfl rfl (by simp only [evs, ev_tmp, Tr.get_set, reduceIte, Nat.reduceEqDiff, Nat.reduceAdd, heA0, heA4, heA1, heA2, heA3, heA10, heA11, g4, g6] <;> rfl) zd (fun v37 h37 hR37 => ?_)
   obtain ⟨t1, nx1, w1, R1, rfl, o1, hP1, hS1, f1⟩ := hR37
   refine o_done (se_seq ?_)
   refine s_ret ?_
   refine se_seq_ret ?_
   refine se_block_ret ?_
   refine se_loop_ret ?_
   refine se_block_ret ?_
   refine ⟨.inr rfl, _, (by simp only [Tryz.results34, resA, Tr.get_set, reduceIte, Nat.reduceEqDiff, Nat.reduceAdd, heA0, heA4, heA1, heA2, heA3, heA10, heA11, g4, g6] <;> rfl), fun K2 r2 id2 c2 Q2 a2 b2 l2 hs2 hd2 => ?_⟩
   obtain ⟨rfl, rfl, rfl⟩ := p4_args hs2
   obtain ⟨rfl, rfl⟩ := hd.uniq hd2
   exact ⟨_, _, _, _, rfl, o1, (hFA R1 hP1 hS1).1, (hFA R1 hP1 hS1).2, FrX.trans hGA f1 ow⟩
  ·have p6 := g6; try simp only [dd] at p6
   refine s_skip (se_seq (s_seq (s_seq (s_region hP hC (oM ?_)))))
   refine os (x_not rfl zw) ?_
   refine o_done (se_seq ?_)
   refine s_join (fun s' => ∃ e tB nxB wqB, ∃ B : Array Wd, ∃ k : Int, s' = ⟨e, 148, ⟨tB, nxB, wqB⟩⟩ /\ e.get 0 = some (.slice (some ⟨id, 0, none⟩) P.size c) /\ e.get 4 = some (CMPV) /\ e.get 1 = some (.int .i64 (x)) /\ e.get 2 = some (.int .i64 (y)) /\ e.get 3 = some (.int .i64 (k)) /\ e.get 10 = some (.bool wb) /\ e.get 11 = some (.bool wp) /\ e.get 12 = some (.int .i64 ((y - x))) /\ 0 <= k /\ k <= 100 /\ PermIn x.toNat y.toNat A B /\ OwnS tB r id (vals B) /\ FrX t nx wr tB nxB wqB r (800000 * ((b - a) - (y - x)) + 20).toNat) ?_ ?_
   ·skip
    refine s_cond za (fun g8 => ?_) (fun g8 => ?_)
    ·have p8 := g8; try simp only [dd] at p8
     refine s_seq (s_region hP hC (oM ?_))
     refine oM ?_
     refine oM ?_
     refine oM ?_
     refine o_callR (tab_missR zd (tab_missR zd (tab_missR zd (tab_hitR (bp_i (a := x) (b := y) dA kkA.1.symm (fun i q => ⟨by have := (hK i q).1; omega, (hK i q).2⟩) ow ow ow ow ow ow ow ow))))) (wA_none rfl) rfl rfl rfl (by simp only [evs, ev_tmp, Tr.get_set, reduceIte, Nat.reduceEqDiff, Nat.reduceAdd, heA0, heA4, heA1, heA2, heA3, heA10, heA11, g4, g6, g8] <;> rfl) zd (fun v44 h44 hR44 => ?_)
     obtain ⟨t1, nx1, w1, R1, rfl, hP1, o1, f1⟩ := hR44
     refine o_done (se_seq (s_region hP hC (oM ?_)))
     refine os (x_bin (u := .int .i64 (l - 1)) rfl za (by rfl) (by rw [b_sub, IntWalk.i64_in _ ow])) ?_
     refine oA ?_
     refine o_done ?_
     refine se_loop ?_
     exact ⟨_, _, _, _, R1, _, rfl, za, za, za, za, za, za, za, za, by omega, by omega, hP1, o1, FrX.trans hGA f1 ow⟩
    ·have p8 := g8; try simp only [dd] at p8
     refine s_skip ?_
     refine se_loop ?_
     exact ⟨_, _, _, _, A, _, rfl, za, za, za, za, za, za, za, za, by omega, by omega, permIn_refl .., oAq, FrX.low hGA ow⟩
   ·skip
    clear heA0 heA4 heA1 heA2 heA3 heA10 heA11 dA gdA gcA gbA gaA hGA oAq
    rintro s' ⟨e, tB, nxB, wqB, B, k, rfl, heB0, heB4, heB1, heB2, heB3, heB10, heB11, heB12, k0, k1, hPB, oB, hGB⟩
    have kkB := kkA.trans (perm_kept hPB ow)
    have zB := kkB.1
    have hBB := hBA.perm ow hPB
    have gaB := hGB.le
    have gbB := hGB.hi
    have gcB := hGB.wlo
    have gdB := hGB.whi
    have dB := hd.step (P' := B) oB hGB.same hK kkB.2
    refine s_seq (s_region hP hC (oM ?_))
    refine oM ?_
    refine oM ?_
    refine oM ?_
    refine o_callR (tab_missR zd (tab_missR zd (tab_missR zd (tab_missR zd (tab_hitR (piv_c (m := P.size) (a := x) (b := y) dB (fun i q => ⟨by have := (hK i q).1; omega, (hK i q).2⟩) ow ow ow kkB.1.symm ow ow ow ow ow)))))) (wA_none rfl) rfl rfl rfl (by simp only [evs, ev_tmp, Tr.get_set, reduceIte, Nat.reduceEqDiff, Nat.reduceAdd, heB0, heB4, heB1, heB2, heB3, heB10, heB11, heB12] <;> rfl) zd (fun v52 h52 hR52 => ?_)
    obtain ⟨t2, nx2, w2, pv, hk, rfl, rfl, p0, p1, h0, h1, f2⟩ := hR52
    have u2 := f2.le
    have v2 := f2.hi
    have lc2 := f2.wlo
    have ld2 := f2.whi
    have o2 := oB.keep (t' := t2) (f2.same _ ow) (f2.same _ ow)
    have g2x : FrX t nx wr t2 nx2 w2 r (800000 * ((b - a) - (y - x)) + 80).toNat := ⟨by omega, by omega, by omega, by omega, fun i q1 q2 => (f2.same i ow).trans (hGB.same i q1 q2)⟩
    have d2 := hd.step (P' := B) o2 g2x.same hK kkB.2
    refine oM ?_
    refine os (x_extract rfl za rfl) ?_
    refine os (x_extract rfl za rfl) ?_
    refine oA ?_
    refine oA ?_
    refine o_done (se_seq (s_seq (s_seq (s_region hP hC (oM ?_)))))
    refine os (x_bin rfl za (by rfl) b_eql) ?_
    refine o_done (se_seq ?_)
    refine s_join (fun s' => ∃ e tC nxC wqC, ∃ C : Array Wd, ∃ p hn : Int, s' = ⟨e, 148, ⟨tC, nxC, wqC⟩⟩ /\ e.get 0 = some (.slice (some ⟨id, 0, none⟩) P.size c) /\ e.get 4 = some (CMPV) /\ e.get 1 = some (.int .i64 (x)) /\ e.get 2 = some (.int .i64 (y)) /\ e.get 3 = some (.int .i64 (k)) /\ e.get 10 = some (.bool wb) /\ e.get 11 = some (.bool wp) /\ e.get 12 = some (.int .i64 ((y - x))) /\ e.get 13 = some (.int .i64 (p)) /\ e.get 14 = some (.int .i64 (hn)) /\ x <= p /\ p < y /\ PermIn x.toNat y.toNat A C /\ OwnS tC r id (vals C) /\ FrX t nx wr tC nxC wqC r (800000 * ((b - a) - (y - x)) + 100).toNat) ?_ ?_
    ·skip
     refine s_cond za (fun g9 => ?_) (fun g9 => ?_)
     ·have p9 := g9; try simp only [dd] at p9
      refine s_seq (s_region hP hC (oM ?_))
      refine oM ?_
      refine oM ?_
      refine oM ?_
      refine o_callR (tab_missR zd (tab_missR zd (tab_missR zd (tab_missR zd (tab_missR zd (tab_hitR (rev_i (a := x) (b := y) d2 kkB.1.symm (fun i q => ⟨by have := (hK i q).1; omega, (hK i q).2⟩) ow ow ow ow ow ow ow ow))))))) (wA_none rfl) rfl rfl rfl (by simp only [evs, ev_tmp, Tr.get_set, reduceIte, Nat.reduceEqDiff, Nat.reduceAdd, heB0, heB4, heB1, heB2, heB3, heB10, heB11, heB12, g9] <;> rfl) zd (fun v61 h61 hR61 => ?_)
      obtain ⟨t3, nx3, w3, R3, rfl, o3, hP3, f3⟩ := hR61
      refine o_done (se_seq (s_seq (s_region hP hC (oM ?_))))
      refine os (x_bin (u := .int .i64 (y - 1)) rfl za (by rfl) (by rw [b_sub, IntWalk.i64_in _ ow])) ?_
      refine oM ?_
      refine oM ?_
      refine os (x_bin (u := .int .i64 (pv - x)) rfl za za (by rw [b_sub, IntWalk.i64_in _ ow])) ?_
      refine os (x_bin (u := .int .i64 (y - 1 - (pv - x))) rfl za za (by rw [b_sub, IntWalk.i64_in _ ow])) ?_
      refine oA ?_
      refine o_done (se_seq (s_region hP hC (oA ?_)))
      refine o_done ?_
      refine se_loop ?_
      exact ⟨_, _, _, _, R3, _, _, rfl, za, za, za, za, za, za, za, za, za, za, by omega, by omega, permIn_trans _ _ _ _ _ hPB hP3, o3, FrX.trans g2x f3 ow⟩
     ·have p9 := g9; try simp only [dd] at p9
      refine s_skip ?_
      refine se_loop ?_
      exact ⟨_, _, _, _, B, _, _, rfl, za, za, za, za, za, za, za, za, za, za, by omega, by omega, hPB, o2, FrX.low g2x ow⟩
    ·skip
     clear heB0 heB4 heB1 heB2 heB3 heB10 heB11 heB12 dB gdB gcB gbB gaB hGB oB u2 v2 lc2 ld2 o2 g2x d2 f2
     rintro s' ⟨e, tC, nxC, wqC, C, p, hn, rfl, heC0, heC4, heC1, heC2, heC3, heC10, heC11, heC12, heC13, heC14, q0, q1, hPC, oC, hGC⟩
     clear hPB kkB zB hBB p0 p1 h0 h1
     have kkC := kkA.trans (perm_kept hPC ow)
     have zC := kkC.1
     have hBC := hBA.perm ow hPC
     have gaC := hGC.le
     have gbC := hGC.hi
     have gcC := hGC.wlo
     have gdC := hGC.whi
     have dC := hd.step (P' := C) oC hGC.same hK kkC.2
     refine s_seq (s_seq ?_)
     refine s_join (fun s' => ∃ e, ∃ qq : Bool, s' = ⟨e, 148, ⟨tC, nxC, wqC⟩⟩ /\ e.get 0 = some (.slice (some ⟨id, 0, none⟩) P.size c) /\ e.get 4 = some (CMPV) /\ e.get 1 = some (.int .i64 (x)) /\ e.get 2 = some (.int .i64 (y)) /\ e.get 3 = some (.int .i64 (k)) /\ e.get 10 = some (.bool wb) /\ e.get 11 = some (.bool wp) /\ e.get 12 = some (.int .i64 ((y - x))) /\ e.get 13 = some (.int .i64 (p)) /\ e.get 14 = some (.int .i64 (hn)) /\ e.get 75 = some (.bool qq)) ?_ ?_
     ·skip
      refine s_region hP hC (oM ?_)
      refine oM ?_
      refine o_guard rfl rfl za (fun g10 => ?_) (fun g10 => ?_)
      ·have p10 := g10; try simp only [dd] at p10
       refine o_step wZ rfl (x_move rfl za) zd ?_
       refine os (x_pick rfl zw zb) ?_
       refine oM ?_
       refine o_guard rfl rfl za (fun g11 => ?_) (fun g11 => ?_)
       ·have p11 := g11; try simp only [dd] at p11
        refine o_step wZ rfl (x_move rfl za) zd ?_
        refine o_step wZ rfl (x_bin rfl za (by rfl) b_eql) zd ?_
        refine os (x_pick rfl zw zb) ?_
        refine o_done ?_
        refine se_loop ?_
        exact ⟨_, _, rfl, za, za, za, za, za, za, za, za, za, za, za⟩
       ·have p11 := g11; try simp only [dd] at p11
        refine oS ?_
        refine oS ?_
        refine os (x_pick rfl zw zb) ?_
        refine o_done ?_
        refine se_loop ?_
        exact ⟨_, _, rfl, za, za, za, za, za, za, za, za, za, za, za⟩
      ·have p10 := g10; try simp only [dd] at p10
       refine oS ?_
       refine os (x_pick rfl zw zb) ?_
       refine oM ?_
       refine oS ?_
       refine oS ?_
       refine os (x_pick rfl zw zb) ?_
       refine o_done ?_
       refine se_loop ?_
       exact ⟨_, _, rfl, za, za, za, za, za, za, za, za, za, za, za⟩
     ·skip
      clear heC0 heC4 heC1 heC2 heC3 heC10 heC11 heC12 heC13 heC14
      rintro s' ⟨e, qq, rfl, heD0, heD4, heD1, heD2, heD3, heD10, heD11, heD12, heD13, heD14, heD75⟩
      refine s_join (fun s' => ∃ e tE nxE wqE, s' = ⟨e, 148, ⟨tE, nxE, wqE⟩⟩ /\ e.get 0 = some (.slice (some ⟨id, 0, none⟩) P.size c) /\ e.get 4 = some (CMPV) /\ e.get 1 = some (.int .i64 (x)) /\ e.get 2 = some (.int .i64 (y)) /\ e.get 3 = some (.int .i64 (k)) /\ e.get 10 = some (.bool wb) /\ e.get 11 = some (.bool wp) /\ e.get 12 = some (.int .i64 ((y - x))) /\ e.get 13 = some (.int .i64 (p)) /\ OwnS tE r id (vals C) /\ FrX t nx wr tE nxE wqE r (800000 * ((b - a) - (y - x)) + 1200).toNat) ?_ ?_
      ·skip
       refine s_cond za (fun g12 => ?_) (fun g12 => ?_)
       ·have p12 := g12; try simp only [dd] at p12
        refine s_seq (s_region hP hC (oM ?_))
        refine oM ?_
        refine oM ?_
        refine oM ?_
        refine o_callR (tab_missR zd (tab_missR zd (tab_missR zd (tab_missR zd (tab_missR zd (tab_missR zd (tab_hitR (pi_i (a := x) (b := y) dC kkC.1.symm (fun i q => ⟨by have := (hK i q).1; omega, (hK i q).2⟩) ow ow ow ow ow ow ow ow)))))))) (wA_none rfl) rfl rfl rfl (by simp only [evs, ev_tmp, Tr.get_set, reduceIte, Nat.reduceEqDiff, Nat.reduceAdd, heD0, heD4, heD1, heD2, heD3, heD10, heD11, heD12, heD13, heD14, heD75, g12] <;> rfl) zd (fun v80 h80 hR80 => ?_)
        obtain ⟨t4, nx4, w4, q4, rfl, rfl, hs4, o4, f4⟩ := hR80
        refine o_done (se_seq ?_)
        refine s_cond za (fun g13 => ?_) (fun g13 => ?_)
        ·have p13 := g13; try simp only [dd] at p13
         refine s_ret ?_
         refine se_loop_ret ?_
         refine se_block_ret ?_
         refine se_loop_ret ?_
         refine se_block_ret ?_
         refine ⟨.inr rfl, _, (by simp only [Tryz.results34, resA, Tr.get_set, reduceIte, Nat.reduceEqDiff, Nat.reduceAdd, heD0, heD4, heD1, heD2, heD3, heD10, heD11, heD12, heD13, heD14, heD75, g12, g13] <;> rfl), fun K2 r2 id2 c2 Q2 a2 b2 l2 hs2 hd2 => ?_⟩
         obtain ⟨rfl, rfl, rfl⟩ := p4_args hs2
         obtain ⟨rfl, rfl⟩ := hd.uniq hd2
         exact ⟨_, _, _, _, rfl, o4, (hFA C hPC (hs4 g13)).1, (hFA C hPC (hs4 g13)).2, FrX.trans hGC f4 ow⟩
        ·have p13 := g13; try simp only [dd] at p13
         refine s_skip ?_
         refine se_loop ?_
         exact ⟨_, _, _, _, rfl, za, za, za, za, za, za, za, za, za, o4, FrX.trans hGC f4 ow⟩
       ·have p12 := g12; try simp only [dd] at p12
        refine s_skip ?_
        refine se_loop ?_
        exact ⟨_, _, _, _, rfl, za, za, za, za, za, za, za, za, za, oC, FrX.low hGC ow⟩
      ·skip
       clear heD0 heD4 heD1 heD2 heD3 heD10 heD11 heD12 heD13 heD14 heD75 dC gdC gcC gbC gaC hGC oC
       rintro s' ⟨e, tE, nxE, wqE, rfl, heE0, heE4, heE1, heE2, heE3, heE10, heE11, heE12, heE13, oE, hGE⟩
       have gaE := hGE.le
       have gbE := hGE.hi
       have gcE := hGE.wlo
       have gdE := hGE.whi
       have dE := hd.step (P' := C) oE hGE.same hK kkC.2
       refine s_seq (s_seq ?_)
       refine s_join (fun s' => ∃ e tF nxF wqF, s' = ⟨e, 148, ⟨tF, nxF, wqF⟩⟩ /\ e.get 0 = some (.slice (some ⟨id, 0, none⟩) P.size c) /\ e.get 4 = some (CMPV) /\ e.get 1 = some (.int .i64 (x)) /\ e.get 2 = some (.int .i64 (y)) /\ e.get 3 = some (.int .i64 (k)) /\ e.get 10 = some (.bool wb) /\ e.get 11 = some (.bool wp) /\ e.get 12 = some (.int .i64 ((y - x))) /\ e.get 13 = some (.int .i64 (p)) /\ e.get 97 = some (.bool (decide (0 < x) && !lessW (C[(x - 1).toNat]!).2 (C[(p).toNat]!).2)) /\ OwnS tF r id (vals C) /\ FrX t nx wr tF nxF wqF r (800000 * ((b - a) - (y - x)) + 1300).toNat) ?_ ?_
       ·skip
        have hqB : nxE <= BIG := by omega
        refine s_draw hP hC zr ?_
        refine dM ?_
        refine ds (x_bin rfl za (by rfl) b_gtr) ?_
        refine dM ?_
        refine d_guard rfl rfl za (fun g15 => ?_) (fun g15 => ?_)
        ·have p15 := g15; try simp only [dd] at p15
         refine d_step wZ rfl (x_move rfl za) zd ?_
         refine d_step wZ rfl (x_move rfl za) zd ?_
         refine d_step wZ rfl (x_move rfl za) zd ?_
         refine d_step wZ rfl (x_bin (u := .int .i64 (x - 1)) rfl za (by rfl) (by rw [b_sub, IntWalk.i64_in _ ow])) zd ?_
         refine d_step wZ rfl (x_index rfl za za u38 T.s22 ow ow) zd ?_
         refine d_step wZ rfl (x_load1 rfl za T.g22 (l_vals oE.whole ow ow)) zd ?_
         refine d_step wZ rfl (x_move rfl za) zd ?_
         refine d_step wZ rfl (x_move rfl za) zd ?_
         refine d_step wZ rfl (x_index rfl za za u38 T.s22 ow ow) zd ?_
         refine d_step wZ rfl (x_load1 rfl za T.g22 (l_vals oE.whole ow ow)) zd ?_
         have hv11 := dE.iv _ (mem_at (P := C) (i := (x - 1).toNat) ow)
         have hv21 := dE.iv _ (mem_at (P := C) (i := (p).toNat) ow)
         refine d_callRC (vs := [(C[(x - 1).toNat]!).1, (C[(p).toNat]!).1]) (cap := []) (tab_hitR (ord_c (nx := nxE) hv11.1 hv21.1 (fun i q => by have := hK i q; omega) hv11.2 hv21.2 ow (Nat.le_refl _))) wZ rfl rfl rfl za (by simp only [evs, ev_tmp, Tr.get_set, reduceIte, Nat.reduceEqDiff, Nat.reduceAdd, heE0, heE4, heE1, heE2, heE3, heE10, heE11, heE12, heE13, g15] <;> rfl) zd (fun v1 ta1 na1 wa1 hR1 => ?_)
         obtain ⟨t1, nx1, wz1, he1, hf1, rfl⟩ := hR1
         cases he1
         have la1 := hf1.le
         have lb1 := hf1.hi
         have lw1 := hf1.wlo
         have hq1 : decide (nxE <= wa1) = true := decide_eq_true ow
         have qC1 : na1 <= BIG := by omega
         have qB1 : nxE <= BIG := by omega
         have ow1 := oE.keep (t' := ta1) (hf1.same _ ow) (hf1.same _ ow)
         refine d_step wZ rfl (x_bin rfl za (by rfl) b_lss) zd ?_
         refine d_step wZ rfl (x_not rfl zw) zd ?_
         refine ds (x_pick rfl zw zb) ?_
         refine d_done ⟨de_quiet (by simp only [List.all_append, List.all_cons, List.all_nil, infOf, decide_eq_true hqB, Bool.and_self, show Inf.skip.quiet = true from rfl, hq1, decide_eq_true qB1, decide_eq_true qC1]) zBG zBG, ?_⟩
         refine se_loop ?_
         exact ⟨_, _, _, _, rfl, za, za, za, za, za, za, za, za, za, (by rw [show decide (0 < x) = true from g15, Bool.true_and, <-ord_lt]; exact za), ow1, FrX.low (FrX.cmp hGE hf1 zwl zwh) ow⟩
        ·have p15 := g15; try simp only [dd] at p15
         refine dS ?_
         refine dS ?_
         refine dS ?_
         refine dS ?_
         refine dS ?_
         refine dS ?_
         refine dS ?_
         refine dS ?_
         refine dS ?_
         refine dS ?_
         refine dS ?_
         refine dS ?_
         refine dS ?_
         refine ds (x_pick rfl zw zb) ?_
         refine d_done ⟨de_quiet (by simp only [List.all_append, List.all_cons, List.all_nil, infOf, decide_eq_true hqB, Bool.and_self, show Inf.skip.quiet = true from rfl]) zBG zBG, ?_⟩
         refine se_loop ?_
         exact ⟨_, _, _, _, rfl, za, za, za, za, za, za, za, za, za, (by rw [show decide (0 < x) = false from g15, Bool.false_and]; exact za), oE, FrX.wr hGE zwl zwh ow⟩
       ·skip
        clear heE0 heE4 heE1 heE2 heE3 heE10 heE11 heE12 heE13 dE gdE gcE gbE gaE hGE oE
        rintro s' ⟨e, tF, nxF, wqF, rfl, heF0, heF4, heF1, heF2, heF3, heF10, heF11, heF12, heF13, heF97, oF, hGF⟩
        have gaF := hGF.le
        have gbF := hGF.hi
        have gcF := hGF.wlo
        have gdF := hGF.whi
        have dF := hd.step (P' := C) oF hGF.same hK kkC.2
        refine s_cond za (fun g18 => ?_) (fun g18 => ?_)
        ·have p18 := g18; try simp only [dd] at p18
         refine s_seq (s_region hP hC (oM ?_))
         refine oM ?_
         refine oM ?_
         refine oM ?_
         refine oM ?_
         refine o_callR (tab_missR zd (tab_missR zd (tab_missR zd (tab_missR zd (tab_missR zd (tab_missR zd (tab_missR zd (tab_hitR (pe_i (a := x) (b := y) (p := p) dF kkC.1.symm (fun i q => ⟨by have := (hK i q).1; omega, (hK i q).2⟩) ow ow ow ow ow ow ow ow ow))))))))) (wA_none rfl) rfl rfl rfl (by simp only [evs, ev_tmp, Tr.get_set, reduceIte, Nat.reduceEqDiff, Nat.reduceAdd, heF0, heF4, heF1, heF2, heF3, heF10, heF11, heF12, heF13, heF97, g18] <;> rfl) zd (fun v103 h103 hR103 => ?_)
         obtain ⟨t5, nx5, w5, m, P4, rfl, rfl, m0, hX, o5, kk5, f5⟩ := hR103
         refine oA ?_
         refine o_done (se_seq (s_seq (s_region hP hC (oM ?_))))
         refine oA ?_
         refine o_done (se_seq ?_)
         refine s_exit ?_
         refine se_seq_exit (se_block_eq ?_)
         refine se_loop ?_
         obtain ⟨x9, hnl⟩ := eq_facts g18
         obtain ⟨r1, r2, r3, r4, r5⟩ := round_eq swo (partitionEqual_holds ltW) ow ow ow ow hBC hnl hX
         have hS : (y - m).toNat < (y - x).toNat := by omega
         exact ⟨(m, y, k), ⟨_, _, _, _, _, _, P4, rfl, za, za, za, za, za, za, za, by dsimp only; omega, by dsimp only; omega, by dsimp only; omega, by dsimp only; omega, by dsimp only; omega, kkC.trans kk5, o5, FrX.trans hGF f5 (by dsimp only; omega), r4, fun R h1 h2 => hFA R (permIn_trans _ _ _ _ _ hPC (r5 R h1 h2).1) (r5 R h1 h2).2⟩, by dsimp only; omega⟩
        ·have p18 := g18; try simp only [dd] at p18
         refine s_skip (se_seq (s_seq (s_region hP hC (oM ?_))))
         refine oM ?_
         refine oM ?_
         refine oM ?_
         refine oM ?_
         refine o_callR (tab_missR zd (tab_missR zd (tab_missR zd (tab_missR zd (tab_missR zd (tab_missR zd (tab_missR zd (tab_missR zd (tab_hitR (pt_i (a := x) (b := y) (p := p) dF kkC.1.symm (fun i q => ⟨by have := (hK i q).1; omega, (hK i q).2⟩) ow ow ow ow ow ow ow ow ow)))))))))) (wA_none rfl) rfl rfl rfl (by simp only [evs, ev_tmp, Tr.get_set, reduceIte, Nat.reduceEqDiff, Nat.reduceAdd, heF0, heF4, heF1, heF2, heF3, heF10, heF11, heF12, heF13, heF97, g18] <;> rfl) zd (fun v111 h111 hR111 => ?_)
         obtain ⟨t5, nx5, w5, m, qp, P4, rfl, rfl, m0, hX, o5, kk5, f5⟩ := hR111
         obtain ⟨r1, r2, r3, r4, r5, r6, r7⟩ := round_part swo (partition_holds ltW) ow ow ow hBC hX
         have zz5 := kk5.1
         have u5 := f5.le
         have v5 := f5.hi
         have w5' := f5.whi
         have f6 := FrX.trans hGF f5 (m := (800000 * ((b - a) - (y - x)) + 10000).toNat) ow
         have kk6 := kkC.trans kk5
         have d5 := hd.step (P' := P4) o5 f6.same hK kk6.2
         refine oM ?_
         refine os (x_extract rfl za rfl) ?_
         refine os (x_extract rfl za rfl) ?_
         refine oA ?_
         refine oA ?_
         refine o_done (se_seq (s_seq (s_region hP hC (oM ?_))))
         refine oA ?_
         refine o_done (se_seq (s_seq (s_region hP hC (oM ?_))))
         refine oM ?_
         refine os (x_bin (u := .int .i64 (m - x)) rfl za za (by rw [b_sub, IntWalk.i64_in _ ow])) ?_
         refine oM ?_
         refine oM ?_
         refine os (x_bin (u := .int .i64 (y - m)) rfl za za (by rw [b_sub, IntWalk.i64_in _ ow])) ?_
         refine oA ?_
         refine oA ?_
         refine o_done (se_seq (s_seq (s_region hP hC (oM ?_))))
         refine os (x_bin (u := .int .i64 ((y - x) / 8)) rfl za (by rfl) (by rw [b_quo zd, Int.tdiv_eq_ediv_of_nonneg ow, IntWalk.i64_in _ ow])) ?_
         refine oA ?_
         refine o_done (se_seq (s_seq (s_region hP hC (oM ?_))))
         refine oM ?_
         refine os (x_bin rfl za za b_lss) ?_
         refine o_done (se_seq ?_)
         refine s_cond za (fun g20 => ?_) (fun g20 => ?_)
         ·have p20 := g20; try simp only [dd] at p20
          refine s_seq (s_region hP hC (oM ?_))
          refine oM ?_
          refine os (x_bin rfl za za b_geq) ?_
          refine oA ?_
          refine o_done (se_seq (s_seq (s_region hP hC (oM ?_))))
          refine oM ?_
          refine oM ?_
          refine oM ?_
          refine oM ?_
          refine o_callR (tab_missR zd (tab_missR zd (tab_missR zd (tab_missR zd (tab_missR zd (tab_missR zd (tab_missR zd (tab_missR zd (tab_missR zd (tab_hitR (ih (a := x) (b := m) (l := k) d5 kk6.1.symm (fun i q => ⟨by have := (hK i q).1; omega, (hK i q).2⟩) ow ow ow ow ow ow r4 ow ow ow ow ow))))))))))) (wA_none rfl) rfl rfl rfl (by simp only [evs, ev_tmp, Tr.get_set, reduceIte, Nat.reduceEqDiff, Nat.reduceAdd, heF0, heF4, heF1, heF2, heF3, heF10, heF11, heF12, heF13, heF97, g18, g20] <;> rfl) zd (fun v134 h134 hR134 => ?_)
          obtain ⟨t7, nx7, w7, L, rfl, o7, hP7, hS7, f7⟩ := hR134
          have z7 := hP7.1
          have u7 := f7.le
          have v7 := f7.hi
          refine o_done (se_seq (s_region hP hC (oM ?_)))
          refine os (x_bin (u := .int .i64 (m + 1)) rfl za (by rfl) (by rw [b_add, IntWalk.i64_in _ ow])) ?_
          refine oA ?_
          refine o_done (se_block ?_)
          refine se_loop ?_
          obtain ⟨s1, s2⟩ := r6 L hP7 hS7
          have f8 := f6.trans2 f7
          have hk8 : (800000 * ((b - a) - (y - x)) + 10000).toNat + (800000 * (m - x).toNat + 400000) <= (800000 * ((b - a) - (y - (m + 1)))).toNat := by
           have hb8 := budget (u := (b - a) - (y - x)) (w := m - x) ow ow
           rw [show (b - a) - (y - (m + 1)) = (b - a) - (y - x) + (m - x) + 1 by omega]
           exact hb8
          exact ⟨(m + 1, y, k), ⟨_, _, _, _, _, _, L, rfl, za, za, za, za, za, za, za, by dsimp only; omega, by dsimp only; omega, by dsimp only; omega, by dsimp only; omega, by dsimp only; omega, kk6.trans (perm_kept hP7 ow), o7, FrX.low f8 hk8, by dsimp only; rw [show (m + 1).toNat = m.toNat + 1 by omega]; exact s1, fun R h1 h2 => by
           dsimp only at h1 h2
           rw [show (m + 1).toNat = m.toNat + 1 by omega] at h1 h2
           exact hFA R (permIn_trans _ _ _ _ _ hPC (s2 R h1 h2).1) (s2 R h1 h2).2⟩, by dsimp only; omega⟩
         ·have p20 := g20; try simp only [dd] at p20
          refine s_seq (s_region hP hC (oM ?_))
          refine oM ?_
          refine os (x_bin rfl za za b_geq) ?_
          refine oA ?_
          refine o_done (se_seq (s_seq (s_region hP hC (oM ?_))))
          refine oM ?_
          refine os (x_bin (u := .int .i64 (m + 1)) rfl za (by rfl) (by rw [b_add, IntWalk.i64_in _ ow])) ?_
          refine oM ?_
          refine oM ?_
          refine oM ?_
          refine o_callR (tab_missR zd (tab_missR zd (tab_missR zd (tab_missR zd (tab_missR zd (tab_missR zd (tab_missR zd (tab_missR zd (tab_missR zd (tab_hitR (ih (a := m + 1) (b := y) (l := k) d5 kk6.1.symm (fun i q => ⟨by have := (hK i q).1; omega, (hK i q).2⟩) ow ow ow ow ow ow (by rw [show (m + 1).toNat = m.toNat + 1 by omega]; exact r5) ow ow ow ow ow))))))))))) (wA_none rfl) rfl rfl rfl (by simp only [evs, ev_tmp, Tr.get_set, reduceIte, Nat.reduceEqDiff, Nat.reduceAdd, heF0, heF4, heF1, heF2, heF3, heF10, heF11, heF12, heF13, heF97, g18, g20] <;> rfl) zd (fun v146 h146 hR146 => ?_)
          obtain ⟨t7, nx7, w7, L, rfl, o7, hP7, hS7, f7⟩ := hR146
          have z7 := hP7.1
          have u7 := f7.le
          have v7 := f7.hi
          rw [show (m + 1).toNat = m.toNat + 1 by omega] at hP7 hS7
          refine o_done (se_seq (s_region hP hC (oM ?_)))
          refine oA ?_
          refine o_done (se_block ?_)
          refine se_loop ?_
          obtain ⟨s1, s2⟩ := r7 L hP7 hS7
          have f8 := f6.trans2 f7
          have hk8 : (800000 * ((b - a) - (y - x)) + 10000).toNat + (800000 * (y - (m + 1)).toNat + 400000) <= (800000 * ((b - a) - (m - x))).toNat := by
           have hb8 := budget (u := (b - a) - (y - x)) (w := y - (m + 1)) ow ow
           rw [show (b - a) - (m - x) = (b - a) - (y - x) + (y - (m + 1)) + 1 by omega]
           exact hb8
          exact ⟨(x, m, k), ⟨_, _, _, _, _, _, L, rfl, za, za, za, za, za, za, za, by dsimp only; omega, by dsimp only; omega, by dsimp only; omega, by dsimp only; omega, by dsimp only; omega, kk6.trans (perm_kept hP7 ow), o7, FrX.low f8 hk8, s1, fun R h1 h2 => hFA R (permIn_trans _ _ _ _ _ hPC (s2 R h1 h2).1) (s2 R h1 h2).2⟩, by dsimp only; omega⟩
theorem pdq_all : ∀ s, PDQ s
 | 0 => fun _ _ _ _ _ _ _ _ _ _ _ _ h => by omega
 | s + 1 => pdq_step (pdq_all s)
end Go.Proofs.YtmladpbadglecaaGreatDoor
