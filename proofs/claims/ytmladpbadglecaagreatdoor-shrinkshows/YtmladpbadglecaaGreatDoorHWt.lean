/-
  Lists of words: a word put in its place; are two lists one.
-/
import Derived.Test.YtmladpbadglecaaGreatDoorHWr
set_option linter.unusedSimpArgs false
set_option linter.unusedVariables false
namespace Go.Proofs.YtmladpbadglecaaGreatDoor
open Go.AM
set_option maxRecDepth 100000
set_option maxHeartbeats 1000000
open Go.Sort
set_option maxHeartbeats 16000000
def LW (t : Tr AObj) (K : Nat -> Prop) (s : Value) (L : List Wd) : Prop := CV t K s (L.map (·.1)) /\ ∀ x ∈ L, IV t K x.1 x.2 /\ x.2.length <= 1000
section
variable {t t' : Tr AObj} {K K' : Nat -> Prop} {s : Value} {L L' : List Wd}
theorem LW.keep (h : LW t K s L) (hk : ∀ i, K i -> t'.get i = t.get i) : LW t' K s L := ⟨h.1.keep hk, fun x hx => ⟨(h.2 x hx).1.keep hk, (h.2 x hx).2⟩⟩
theorem LW.mono (h : LW t K s L) (hk : ∀ i, K i -> K' i) : LW t K' s L := ⟨h.1.mono hk, fun x hx => ⟨(h.2 x hx).1.mono hk, (h.2 x hx).2⟩⟩
theorem wds_uniq : ∀ {L L' : List Wd}, L'.map (·.1) = L.map (·.1) -> (∀ x ∈ L, IV t K x.1 x.2) -> (∀ x ∈ L', IV t K' x.1 x.2) -> L' = L
 | [], [], _, _, _ => rfl
 | [], _ :: _, h, _, _ => by cases h
 | _ :: _, [], h, _, _ => by cases h
 | x :: L, y :: L2, h, h1, h2 => by
  simp only [List.map_cons, List.cons.injEq] at h
  have ih := wds_uniq h.2 (fun z hz => h1 z (List.mem_cons_of_mem _ hz)) (fun z hz => h2 z (List.mem_cons_of_mem _ hz))
  have a := h1 x (List.mem_cons_self ..)
  have b := h2 y (List.mem_cons_self ..)
  rw [h.1] at b
  rw [ih, Prod.ext h.1 (a.uniq b)]
theorem LW.uniq (h : LW t K s L) (h' : LW t K' s L') : L' = L := wds_uniq (h.1.uniq h'.1) (fun x hx => (h.2 x hx).1) (fun x hx => (h'.2 x hx).1)
theorem ivs_one (h : ∀ x ∈ L, IV t K x.1 x.2 /\ x.2.length <= 1000) : (L.map (·.1)).all oneC = true := by
 rw [List.all_eq_true]
 intro v hv
 obtain ⟨x, hx, rfl⟩ := List.mem_map.1 hv
 exact (h x hx).1.one
theorem iv_eqV {l : List Int} (h : IV t K s l) : eqV 20 s s = true := by
 rcases h with ⟨_, rfl⟩ | ⟨id, off, c, rfl, _⟩ <;> exact Go.AM.eqV_slice
end
theorem cv_K {t : Tr AObj} {K : Nat -> Prop} {id off n : Nat} {l : List Value} (h : ∀ t' nx' wr', (∀ i, K i -> t'.get i = t.get i) -> loadC ⟨t', nx', wr'⟩ id off n = some l) : K id := by
 by_cases hk : K id
 ·exact hk
 ·have h1 := h (t.set id (.alias id 0 0)) 0 0 (fun i hi => by rw [Tr.get_set, if_neg (by rintro rfl; exact hk hi)])
  have hf : (⟨t.set id (.alias id 0 0), 0, 0⟩ : AH).fam id = none := by
   unfold AH.fam
   simp only [Tr.get_set, if_true]
  unfold loadC at h1
  rw [hf] at h1
  cases h1
theorem cv_R {t : Tr AObj} {K : Nat -> Prop} {id off n nx wr : Nat} {l : List Value} (h : ∀ t' nx' wr', (∀ i, K i -> t'.get i = t.get i) -> loadC ⟨t', nx', wr'⟩ id off n = some l) : K (rootOf ⟨t, nx, wr⟩ id) := by
 have hid := cv_K h
 by_cases hk : K (rootOf ⟨t, nx, wr⟩ id)
 ·exact hk
 ·have h1 := h (t.set (rootOf ⟨t, nx, wr⟩ id) (.alias (rootOf ⟨t, nx, wr⟩ id) 0 0)) nx wr (fun i hi => by rw [Tr.get_set, if_neg (by rintro rfl; exact hk hi)])
  have hne : id ≠ rootOf ⟨t, nx, wr⟩ id := fun q => hk (q ▸ hid)
  have hf : (⟨t.set (rootOf ⟨t, nx, wr⟩ id) (.alias (rootOf ⟨t, nx, wr⟩ id) 0 0), nx, wr⟩ : AH).fam id = none := by
   revert hne
   unfold rootOf AH.fam
   simp only
   intro hne
   cases hgq : t.get id with
   | none =>
    rw [hgq] at hne
    exact absurd rfl hne
   | some o =>
    rw [hgq] at hne
    cases o with
    | row d c lo ro n0 => exact absurd rfl hne
    | map es ck => exact absurd rfl hne
    | alias r b0 n0 =>
     simp only at hne ⊢
     cases hr : t.get r with
     | none =>
      rw [hr] at hne
      exact absurd rfl hne
     | some o2 =>
      rw [hr] at hne
      cases o2 with
      | row d c lo ro n1 =>
       simp only at hne ⊢
       rw [Tr.get_set, if_neg hne, hgq]
       simp only [Tr.get_set, if_true]
      | _ => exact absurd rfl hne
    | _ => exact absurd rfl hne
  unfold loadC at h1
  rw [hf] at h1
  cases h1
theorem my_cv {B : Nat} {Y : Option Nat} {M : List Nat} {n nx : Nat} {acc : List Inf} {e : Tr Value} {t : Tr AObj} {K : Nat -> Prop} {s : Value} {d : List Value} {T : TypeId} {a : Operand} {lo hi mx : Option Operand} (h : MkY B Y M n acc) (hs : CV t K s d) (hx : ev e a = some s) (hK : ∀ i, K i -> i < B) (hB : B <= nx) (h3 : nx <= BIG) (hM : M.getD n 1 = 0 := by rfl) : MkY B Y M (n + 1) (acc ++ [infOf e t nx (.slice T a lo hi mx) t nx BIG]) := by
 rcases hs with ⟨_, rfl⟩ | ⟨id, off, c, rfl, _, hl⟩
 ·exact my_op h h3 hM rfl (by simp only [readId, hx])
 ·have h1 := hK _ (cv_K hl)
  have h2 := hK _ (cv_R (nx := nx) (wr := 0) hl)
  exact my_ld h (by simp only [readId, hx]) h3 ow ow h1 h2 hM rfl
def putK (L : List Wd) (w : List Int) : Nat -> Nat
 | 0 => 0
 | k + 1 => if lessW w (L[k]!).2 then putK L w k else k + 1
theorem putK_le {L : List Wd} {w : List Int} : ∀ k, putK L w k <= k
 | 0 => Nat.le_refl _
 | k + 1 => by
  unfold putK
  split
  ·exact Nat.le_succ_of_le (putK_le k)
  ·exact Nat.le_refl _
theorem putK_step {L : List Wd} {w : List Int} {k : Int} (h : 0 < k) : putK L w k.toNat = if lessW w (L[(k - 1).toNat]!).2 then putK L w (k - 1).toNat else k.toNat := by
 obtain ⟨n, rfl⟩ : ∃ n : Nat, k = n + 1 := ⟨(k - 1).toNat, by omega⟩
 rw [show ((n : Int) + 1).toNat = n + 1 by omega, show ((n : Int) + 1 - 1).toNat = n by omega, putK]
open Classical in
noncomputable def putL (L : List Wd) (x : Wd) : List Wd := if ∃ y ∈ L, y.2 = x.2 then L else L.take (putK L x.2 L.length) ++ [x] ++ L.drop (putK L x.2 L.length)
theorem Fr.wr {t t' : Tr AObj} {nx wr nx' wr' k w : Nat} (h : Fr t nx wr t' nx' wr' k) (h1 : min wr nx <= w) (h2 : w <= wr) : Fr t nx wr t' nx' w k := ⟨h.le, h.hi, h1, h2, h.same⟩
def R_put : List Value -> AH -> Value -> AH -> Prop := fun args h v h' => ∀ K sl sw (L : List Wd) (w : List Int), args = [sl, sw] -> LW h.t K sl L -> IV h.t K sw w -> (∀ i, K i -> i < h.next) -> ∃ t' nx' wr', h' = ⟨t', nx', wr'⟩ /\ Fr h.t h.next h.wr t' nx' wr' 300 /\ LW t' (fun i => K i \/ (h.next <= i /\ i < nx')) v (putL L (sw, w))
noncomputable def c_put := cEx Tryz.prog 23 R_put
theorem con_put : Con Tryz.prog 23 c_put := con_ex Tryz.func23 rfl
theorem put_c {t : Tr AObj} {K : Nat -> Prop} {nx wr : Nat} {sl sw : Value} {L : List Wd} {w : List Int} (hs : LW t K sl L) (hr : IV t K sw w) (hK : ∀ i, K i -> i < nx) (hl : L.length <= 40) (hm : w.length <= 1000) (hN : nx + 3000000 <= BIG) (hwr : wr <= BIG) : ∃ v h', c_put [sl, sw] ⟨t, nx, wr⟩ = some (v, h') /\ ∃ t' nx' wr', h' = ⟨t', nx', wr'⟩ /\ Fr t nx wr t' nx' wr' 300 /\ LW t' (fun i => K i \/ (nx <= i /\ i < nx')) v (putL L (sw, w)) := by
 have hP := Fits
 have hC : CallSound Tryz.prog (tabOf [(36, c_rless), (21, c_same)]) := tab_sound (tab_cons con_rless (tab_cons con_same tab_end))
 suffices key : SureK Tryz.prog ⟨t, nx, wr⟩ _ [] _ (EndR Tryz.prog _ (R_put [sl, sw] ⟨t, nx, wr⟩)) by
  obtain ⟨v, h', q, x⟩ := sure_start (R := R_put) (sz := 46) Tryz.func23 rfl rfl zo key
  exact ⟨v, h', q, x K sl sw L w rfl hs hr hK⟩
 have hll : (L.map (·.1)).length = L.length := List.length_map ..
 have pkl := putK_le (L := L) (w := w) L.length
 refine s_seq (s_region hP hC (oA ?_))
 refine o_done (se_seq (s_seq (s_region hP hC (oM ?_))))
 refine os ((x_lenC hs.1 rfl rfl zv rfl u38).trans (by rw [hll])) ?_
 refine oA ?_
 refine o_done (se_seq (s_seq ?_))
 refine s_join (fun s' => ∃ e tB nxB wqB, s' = ⟨e, 46, ⟨tB, nxB, wqB⟩⟩ /\ e.get 0 = some (sl) /\ e.get 1 = some (sw) /\ e.get 5 = some (.int .i64 (putK L w L.length : Nat)) /\ Fr t nx wr tB nxB wqB 210) ?_ ?_
 ·skip
  refine s_block ?_
  refine s_loop (α := Int) (fun k s' => ∃ e tA nxA wqA, s' = ⟨e, 46, ⟨tA, nxA, wqA⟩⟩ /\ e.get 0 = some (sl) /\ e.get 1 = some (sw) /\ e.get 5 = some (.int .i64 (k)) /\ 0 <= k /\ k <= L.length /\ putK L w L.length = putK L w k.toNat /\ Fr t nx wr tA nxA wqA (5 * (L.length - k).toNat)) (fun k => k.toNat) (L.length : Nat) ⟨_, _, _, _, rfl, hg, hg, hg, by omega, by omega, by rw [Int.toNat_natCast], Fr.refl⟩ ?_
  rintro k s' ⟨e, tA, nxA, wqA, rfl, heA0, heA1, heA5, k0, k1, hE, hGA⟩
  have gaA := hGA.le
  have gbA := hGA.hi
  have gcA := hGA.wlo
  have gdA := hGA.whi
  have lwA := hs.keep (t' := tA) (fun i q => hGA.same i (hK i q))
  have wdA := hr.keep (t' := tA) (fun i q => hGA.same i (hK i q))
  refine s_seq (s_seq (s_region hP hC (oM ?_)))
  refine os (x_bin rfl za (by rfl) b_gtr) ?_
  refine o_done (se_seq ?_)
  refine s_cond za (fun g2 => ?_) (fun g2 => ?_)
  ·have p2 := g2; try simp only [dd] at p2
   refine s_skip (se_seq (s_block (s_seq (s_seq (s_region hP hC (oM ?_))))))
   refine oM ?_
   refine oM ?_
   refine os (x_bin (u := .int .i64 (k - 1)) rfl za (by rfl) (by rw [b_sub, IntWalk.i64_in _ ow])) ?_
   obtain ⟨id1, of1, c1, hv1, hl1⟩ := lwA.1.elem (i := k - 1) ow (by rw [List.length_map]; omega)
   rw [map_at (L := L) ow] at hl1
   have hm1 := mem_L (L := L) (i := (k - 1).toNat) ow
   refine os ((x_indexC hv1 rfl za za u38 T.s22 ow (by rw [List.length_map]; omega))) ?_
   refine os (x_load1 rfl za T.g22 (hl1 _ _ _ (fun _ _ => rfl))) ?_
   have hx1 := lwA.2 _ hm1
   refine o_callR (tab_hitR (rless_c (nx := nxA) wdA hx1.1 (fun i q => by have := hK i q; omega) ow ow ow ow)) (wA_none rfl) rfl rfl rfl (by simp only [evs, ev_tmp, Tr.get_set, reduceIte, Nat.reduceEqDiff, Nat.reduceAdd, heA0, heA1, heA5, g2] <;> rfl) zd (fun v1 h1 hR1 => ?_)
   obtain ⟨t1, n1, w1, rfl, hF1, rfl⟩ := hR1
   refine os (x_not rfl zw) ?_
   refine o_done (se_seq ?_)
   refine s_cond za (fun g4 => ?_) (fun g4 => ?_)
   ·have p4 := g4; try simp only [dd] at p4
    refine s_exit ?_
    refine se_seq_exit ?_
    refine se_block_ne zd ?_
    refine se_loop_exit ?_
    refine se_block_eq ?_
    refine se_loop ?_
    have hk : ((putK L w L.length : Nat) : Int) = k := by rw [hE, putK_step ow, if_neg (by simpa using g4)]; omega
    exact ⟨_, _, _, _, rfl, za, za, by rw [hk]; exact za, Fr.trans hGA hF1 ow⟩
   ·have p4 := g4; try simp only [dd] at p4
    refine s_skip (se_seq (s_region hP hC (oM ?_)))
    refine os (x_bin (u := .int .i64 (k - 1)) rfl za (by rfl) (by rw [b_sub, IntWalk.i64_in _ ow])) ?_
    refine oA ?_
    refine o_done (se_block ?_)
    refine se_loop ?_
    have hw1 : IntKind.i64.wrap (k - 1) = k - 1 := IntWalk.i64_in _ ow
    exact ⟨k - 1, ⟨_, _, _, _, rfl, za, za, (by simp only [Tr.get_set, reduceIte, Nat.reduceEqDiff, Nat.reduceAdd, hw1, heA0, heA1, heA5, g2, g4] <;> rfl), by omega, by omega, by rw [hE, putK_step ow, if_pos (by simpa using g4)], Fr.trans hGA hF1 ow⟩, by omega⟩
  ·have p2 := g2; try simp only [dd] at p2
   refine s_exit ?_
   refine se_seq_exit ?_
   refine se_loop_exit ?_
   refine se_block_eq ?_
   refine se_loop ?_
   have hk : ((putK L w L.length : Nat) : Int) = k := by rw [hE, show k.toNat = 0 by omega]; show ((0 : Nat) : Int) = k; omega
   exact ⟨_, _, _, _, rfl, za, za, by rw [hk]; exact za, Fr.low hGA ow⟩
 ·skip
  rintro s' ⟨e, tB, nxB, wqB, rfl, heB0, heB1, heB5, hGB⟩
  have gaB := hGB.le
  have gbB := hGB.hi
  have gcB := hGB.wlo
  have gdB := hGB.whi
  have lwB := hs.keep (t' := tB) (fun i q => hGB.same i (hK i q))
  have wdB := hr.keep (t' := tB) (fun i q => hGB.same i (hK i q))
  refine s_seq (s_seq (s_region hP hC (oA ?_)))
  refine o_done (se_seq (s_block ?_))
  refine s_loop (α := Int) (fun i s' => ∃ e wqC, s' = ⟨e, 46, ⟨tB, nxB, wqC⟩⟩ /\ e.get 0 = some (sl) /\ e.get 1 = some (sw) /\ e.get 5 = some (.int .i64 (putK L w L.length : Nat)) /\ e.get 6 = some (.int .i64 (i)) /\ 0 <= i /\ i <= L.length /\ wqC = wqB /\ ∀ y ∈ L.take i.toNat, y.2 ≠ w) (fun i => (L.length + 5 - i).toNat) 0 ⟨_, _, rfl, za, za, za, za, by omega, by omega, rfl, fun y hy => by simp at hy⟩ ?_
  rintro i s' ⟨e, wqC, rfl, heC0, heC1, heC5, heC6, i0, i1, hwq, hE⟩
  refine s_seq (s_seq (s_region hP hC (oM ?_)))
  refine oM ?_
  refine os ((x_lenC lwB.1 rfl rfl (by simp only [evs, ev_tmp, Tr.get_set, reduceIte, Nat.reduceEqDiff, Nat.reduceAdd, heC0, heC1, heC5, heC6] <;> rfl) rfl u38).trans (by rw [hll])) ?_
  refine os (x_bin rfl za za b_lss) ?_
  refine o_done (se_seq ?_)
  refine s_cond za (fun g6 => ?_) (fun g6 => ?_)
  ·have p6 := g6; try simp only [dd] at p6
   refine s_skip (se_seq (s_seq (s_block (s_seq (s_region hP hC (oM ?_))))))
   refine oM ?_
   obtain ⟨id2, of2, c2, hv2, hl2⟩ := lwB.1.elem (i := i) ow (by rw [List.length_map]; omega)
   rw [map_at (L := L) ow] at hl2
   have hm2 := mem_L (L := L) (i := (i).toNat) ow
   refine os ((x_indexC hv2 rfl za za u38 T.s22 ow (by rw [List.length_map]; omega))) ?_
   refine os (x_load1 rfl za T.g22 (hl2 _ _ _ (fun _ _ => rfl))) ?_
   refine oM ?_
   have hx2 := lwB.2 _ hm2
   refine o_callR (tab_missR zd (tab_hitR (same_c (nx := nxB) hx2.1 wdB ow ow ow ow))) (wA_none rfl) rfl rfl rfl (by simp only [evs, ev_tmp, Tr.get_set, reduceIte, Nat.reduceEqDiff, Nat.reduceAdd, heC0, heC1, heC5, heC6, g6] <;> rfl) zd (fun v2 h2 hR2 => ?_)
   obtain ⟨rfl, rfl⟩ := hR2
   refine o_done (se_seq ?_)
   refine s_cond za (fun g7 => ?_) (fun g7 => ?_)
   ·have p7 := g7; try simp only [dd] at p7
    refine s_seq (s_region hP hC (oM ?_))
    refine oA ?_
    refine o_done (se_seq ?_)
    refine s_ret ?_
    refine se_block_ret ?_
    refine se_seq_ret ?_
    refine se_loop_ret ?_
    refine se_block_ret ?_
    refine se_seq_ret ?_
    refine ⟨.inr rfl, _, (by simp only [Tryz.results23, resA, Tr.get_set, reduceIte, Nat.reduceEqDiff, Nat.reduceAdd] <;> rfl), fun K2 sl2 sw2 L2 w2 hs4 hs2 hb2 hK2 => ?_⟩
    cases hs4
    obtain rfl := (hs.uniq hs2).symm
    obtain rfl := (hr.uniq hb2).symm
    exact ⟨_, _, _, rfl, Fr.low (Fr.wr hGB ozz ozz) ow, by
     rw [show putL L (sw, w) = L from if_pos ⟨_, hm2, of_decide_eq_true g7⟩]
     exact (hs2.keep (t' := tB) (fun i q => hGB.same i (hK2 i q))).mono fun i q => .inl q⟩
   ·have p7 := g7; try simp only [dd] at p7
    refine s_skip (se_block (se_seq (s_region hP hC (oM ?_))))
    refine os (x_bin rfl za (by rfl) b_add) ?_
    refine oA ?_
    refine o_done ?_
    refine se_loop ?_
    have hw1 : IntKind.i64.wrap (i + 1) = i + 1 := IntWalk.i64_in _ ow
    exact ⟨i + 1, ⟨_, _, rfl, za, za, za, (by simp only [Tr.get_set, reduceIte, Nat.reduceEqDiff, Nat.reduceAdd, hw1, heC0, heC1, heC5, heC6, g6, g7] <;> rfl), by omega, by omega, hwq, fun y hy => by
     rw [show (i + 1).toNat = i.toNat + 1 by omega, List.take_succ_eq_append_getElem ow] at hy
     rcases List.mem_append.1 hy with q | q
     ·exact hE y q
     ·rw [List.mem_singleton.1 q, <-getElem!_pos L i.toNat ow]
      exact of_decide_eq_false g7⟩, by omega⟩
  ·have p6 := g6; try simp only [dd] at p6
   refine s_exit ?_
   refine se_seq_exit ?_
   refine se_loop_exit ?_
   refine se_block_eq (se_seq (s_seq ?_))
   have hno : ¬ ∃ y ∈ L, y.2 = w := by
    rintro ⟨y, hy, h⟩
    rw [show i.toNat = L.length by omega, List.take_length] at hE
    exact hE y hy h
   obtain ⟨wA, iA, hsA⟩ := x_sliceC (P := Tryz.prog) (T := 38) (lo := none) (hi := some (.tmp 36)) (i := 0) (j := ((putK L w L.length) : Nat)) lwB.1 u38 T.s22 ow ow (by rw [hll]; omega) (fun _ => rfl) (fun q => by cases q)
   obtain ⟨wB, iB, hsB⟩ := x_sliceC (P := Tryz.prog) (T := 38) (lo := some (.tmp 43)) (hi := none) (i := ((putK L w L.length) : Nat)) (j := (L.length : Nat)) lwB.1 u38 T.s22 ow ow (by rw [hll]; omega) (fun q => by cases q) (fun _ => by rw [hll])
   have eA : ((L.map (·.1)).drop (0 : Int).toNat).take ((((putK L w L.length) : Nat) : Int).toNat - (0 : Int).toNat) = (L.take (putK L w L.length)).map (·.1) := by rw [Int.toNat_zero, List.drop_zero, Int.toNat_natCast, Nat.sub_zero, List.map_take]
   have eB : ((L.map (·.1)).drop (((putK L w L.length) : Nat) : Int).toNat).take (((L.length : Nat) : Int).toNat - (((putK L w L.length) : Nat) : Int).toNat) = (L.drop (putK L w L.length)).map (·.1) := by rw [Int.toNat_natCast, Int.toNat_natCast, List.take_of_length_le (by rw [List.length_drop, hll]; omega), List.map_drop]
   rw [eA] at iA
   rw [eB] at iB
   have oAq := ivs_one (L := L.take (putK L w L.length)) (fun x hx => lwB.2 x (List.mem_of_mem_take hx))
   have oB := ivs_one (L := L.drop (putK L w L.length)) (fun x hx => lwB.2 x (List.mem_of_mem_drop hx))
   have zA : ((L.take (putK L w L.length)).map (·.1)).length <= 40 := by rw [List.length_map, List.length_take]; omega
   have zB : ((L.drop (putK L w L.length)).map (·.1)).length <= 40 := by rw [List.length_map, List.length_drop]; omega
   have hq0 := iv_eqV wdB
   skip
   refine s_drawP (l := [0, 1, 2, 3, 5, 6, 4, 7, 8, 9, 10, 11, 12]) hP hC zr zr ?_
   refine ds (y_bslice0 rfl u38 T.s22 T.z22 zd rfl rfl) ?_
   refine dM ?_
   refine dM ?_
   refine ds (hsA (fun i q => by have := hK i q; rw [gn ow]) rfl za (fun a q => by cases q) (fun a q => by cases q; exact za)) ?_
   refine dM ?_
   refine ds (y_bsliceV rfl za (one_cells wdB.one) u38 T.s22 T.z22 rfl rfl) ?_
   have hYa : ((tB.set nxB (.row [] nxB BIG false 0)).set (nxB + 1) (.row [sw] (nxB + 1) BIG false 1)).get (nxB + 1) = some (.row [sw] (nxB + 1) BIG false 1) := by rw [gp rfl]
   refine d_appC (show AccC (tB.set nxB (.row [] nxB BIG false 0)) nxB (nxB + 1) (fun x => x = nxB) (.slice (some ⟨nxB, 0, none⟩) 0 0) [] from .inr ⟨rfl, fun x hx => by omega, nxB, rfl, by rw [gp rfl], rfl⟩) (cells_cv (iA.keep (fun i q => by have := hK i q; rw [gn ow, gn ow])) u38 T.s22) (wA_none rfl) rfl rfl rfl (by simp only [evs, ev_tmp, Tr.get_set, reduceIte, Nat.reduceEqDiff, Nat.reduceAdd, heC0, heC1, heC5, heC6, g6] <;> rfl) rfl rfl zr u38 T.i38 zd zd oAq ow (fun x hx => by subst hx; rw [gn ow]) ow (by rw [List.length_nil]; omega) (fun v1 t1 n1 w1 S1 hA1 => ?_)
   have la1 := hA1.le
   have lb1 := hA1.hi
   have lc1 := hA1.wlo
   have ld1 := hA1.whi
   have ac1 := hA1.acc
   have hYb := (hA1.same (nxB + 1) ow ow).trans hYa
   have zz1 : ([] ++ (L.take (putK L w L.length)).map (·.1) : List Value).length <= 40 := by rw [List.nil_append]; exact zA
   refine d_appC ac1 (cells_cv (cv_row (K := fun i => i = nxB + 1) rfl (.inl rfl) hYb rfl) u38 T.s22) (wA_none rfl) rfl rfl rfl (by simp only [evs, ev_tmp, Tr.get_set, reduceIte, Nat.reduceEqDiff, Nat.reduceAdd, heC0, heC1, heC5, heC6, g6] <;> rfl) rfl rfl zr u38 T.i38 zd zd (by simp only [List.all_cons, List.all_nil, wdB.one]; rfl) ow (fun x hx => rfl) ow (by show _ + 1 <= 1000000; omega) (fun v2 t2 n2 w2 S2 hA2 => ?_)
   have la2 := hA2.le
   have lb2 := hA2.hi
   have lc2 := hA2.wlo
   have ld2 := hA2.whi
   have ac2 := hA2.acc
   have hnS : ¬ S1 (nxB + 1) := fun q => by
    rcases hA1.sub _ q with h | h
    ·have h : nxB + 1 = nxB := h
     omega
    ·omega
   have hYc := (hA2.same (nxB + 1) hnS ow).trans hYb
   have zz2 : ([] ++ (L.take (putK L w L.length)).map (·.1) ++ [sw] : List Value).length <= 41 := by rw [List.length_append]; show _ + 1 <= 41; omega
   have hkB : ∀ i, K i -> t2.get i = tB.get i := fun i q => by
    have := hK i q
    have n1 : ¬ S1 i := fun h => by have := ac1.bnd i h; omega
    exact (hA2.same i n1 ow).trans ((hA1.same i ow ow).trans (by rw [gn ow, gn ow]))
   refine dM ?_
   refine dM ?_
   refine ds (hsB hkB rfl za (fun a q => by cases q; exact za) (fun a q => by cases q)) ?_
   refine d_appC ac2 (cells_cv (iB.keep hkB) u38 T.s22) (wA_none rfl) rfl rfl rfl (by simp only [evs, ev_tmp, Tr.get_set, reduceIte, Nat.reduceEqDiff, Nat.reduceAdd, heC0, heC1, heC5, heC6, g6] <;> rfl) rfl rfl zr u38 T.i38 zd zd oB ow (fun x hx => rfl) ow ow (fun v3 t3 n3 w3 S3 hA3 => ?_)
   have la3 := hA3.le
   have lb3 := hA3.hi
   have lc3 := hA3.wlo
   have ld3 := hA3.whi
   have ac3 := hA3.acc
   have hnS2 : ¬ S2 (nxB + 1) := fun q => by
    rcases hA2.sub _ q with h | h
    ·exact hnS h
    ·omega
   have hYd := (hA3.same (nxB + 1) hnS2 ow).trans hYc
   refine ds (x_assign rfl za) ?_
   refine d_done ⟨de_ok (tail_my (B := nxB) (Y := (some (nxB + 1))) (M := [1, 0, 0, 1, 0, 3, 2, 2, 0, 0, 0, 2, 0]) (fw := 6) (my_op (my_w (my_cv (K := K) (my_op (my_op (my_w (my_w (my_f (y := 0) (my_op (my_q (my_op (my_op (my_q my_nil ow) ow) ow) ow) ow) rfl ow) ow (fun y q => by cases q; exact sameO_row hYa hYb (by intro v hv; rw [List.mem_singleton.1 hv]; exact hq0))) ow (fun y q => by cases q; exact sameO_row hYb hYc (by intro v hv; rw [List.mem_singleton.1 hv]; exact hq0))) ow) ow) (lwB.1.keep hkB) za (fun i q => by have := hK i q; omega) ow ow) ow (fun y q => by cases q; exact sameO_row hYc hYd (by intro v hv; rw [List.mem_singleton.1 hv]; exact hq0))) ow) zd zr) (by try dsimp only; omega) (by try dsimp only; omega), ?_⟩
   refine se_seq ?_
   refine s_ret ?_
   have fr3 : ∀ i, i < nx -> t3.get i = t.get i := fun i hi => by
    have m1 : ¬ S1 i := fun h => by have := ac1.bnd i h; omega
    have m2 : ¬ S2 i := fun h => by have := ac2.bnd i h; omega
    exact (hA3.same i m2 ow).trans ((hA2.same i m1 ow).trans ((hA1.same i ow ow).trans ((by rw [gn ow, gn ow] : _ = tB.get i).trans (hGB.same i hi))))
   refine ⟨.inr rfl, _, (by simp only [Tryz.results23, resA, Tr.get_set, reduceIte, Nat.reduceEqDiff, Nat.reduceAdd] <;> rfl), fun K2 sl2 sw2 L2 w2 hs4 hs2 hb2 hK2 => ?_⟩
   cases hs4
   obtain rfl := (hs.uniq hs2).symm
   obtain rfl := (hr.uniq hb2).symm
   exact ⟨_, _, _, rfl, ⟨ozz, ozz, ozz, ozz, fun i (hi : i < nx) => fr3 i hi⟩, by
    rw [show putL L (sw, w) = L.take (putK L w L.length) ++ [(sw, w)] ++ L.drop (putK L w L.length) from if_neg hno]
    refine ⟨?_, fun y hy => ?_⟩
    ·have hc := ac3.cv.mono (K' := fun i => K2 i \/ (nx <= i /\ i < n3)) (fun i q => .inr (by have := ac3.bnd i q; omega))
     rw [List.nil_append] at hc
     rw [List.map_append, List.map_append]
     exact hc
    ·have hy : y ∈ L \/ y = (sw, w) := by
      rcases List.mem_append.1 hy with h | h
      ·rcases List.mem_append.1 h with h | h
       ·exact .inl (List.mem_of_mem_take h)
       ·exact .inr (List.mem_singleton.1 h)
      ·exact .inl (List.mem_of_mem_drop h)
     rcases hy with h | rfl
     ·exact ⟨((hs2.2 y h).1.keep fun i q => fr3 i (hK2 i q)).mono fun i q => .inl q, (hs2.2 y h).2⟩
     ·exact ⟨(hb2.keep fun i q => fr3 i (hK2 i q)).mono fun i q => .inl q, hm⟩⟩
def R_sw : List Value -> AH -> Value -> AH -> Prop := fun args h v h' => ∀ K s r (A B : List Wd), args = [s, r] -> LW h.t K s A -> LW h.t K r B -> h' = ⟨h.t, h.next, h.wr⟩ /\ ∃ q : Bool, v = .bool q /\ (A.map (·.2) = B.map (·.2) -> q = true)
noncomputable def c_sw := cEx Tryz.prog 10 R_sw
theorem con_sw : Con Tryz.prog 10 c_sw := con_ex Tryz.func10 rfl
theorem sw_c {t : Tr AObj} {K : Nat -> Prop} {nx wr : Nat} {s r : Value} {A B : List Wd} (hs : LW t K s A) (hr : LW t K r B) (hl : A.length <= 1000) (hm : B.length <= 1000) (hN : nx <= BIG) (hwr : wr <= BIG) : ∃ v h', c_sw [s, r] ⟨t, nx, wr⟩ = some (v, h') /\ h' = ⟨t, nx, wr⟩ /\ ∃ q : Bool, v = .bool q /\ (A.map (·.2) = B.map (·.2) -> q = true) := by
 have hP := Fits
 have hC : CallSound Tryz.prog (tabOf [(21, c_same)]) := tab_sound (tab_cons con_same tab_end)
 suffices key : SureK Tryz.prog ⟨t, nx, wr⟩ _ [] _ (EndR Tryz.prog _ (R_sw [s, r] ⟨t, nx, wr⟩)) by
  obtain ⟨v, h', q, x⟩ := sure_start (R := R_sw) (sz := 27) Tryz.func10 rfl rfl zo key
  exact ⟨v, h', q, x K s r A B rfl hs hr⟩
 have hla : (A.map (·.1)).length = A.length := List.length_map ..
 have hlb : (B.map (·.1)).length = B.length := List.length_map ..
 refine s_seq (s_region hP hC (oA ?_))
 refine o_done (se_seq (s_seq (s_seq (s_region hP hC (oM ?_)))))
 refine os ((x_lenC hs.1 rfl rfl zv rfl u38).trans (by rw [hla])) ?_
 refine oM ?_
 refine os ((x_lenC hr.1 rfl rfl zv rfl u38).trans (by rw [hlb])) ?_
 refine os (x_bin rfl zt zt b_neq) ?_
 refine o_done (se_seq ?_)
 refine s_cond zt (fun g2 => ?_) (fun g2 => ?_)
 ·have p2 := g2; try simp only [dd] at p2
  refine s_seq (s_region hP hC (oA ?_))
  refine o_done (se_seq ?_)
  refine s_ret ?_
  refine se_seq_ret ?_
  refine ⟨.inr rfl, _, (by simp only [Tryz.results10, resA, Tr.get_set, reduceIte, Nat.reduceEqDiff, Nat.reduceAdd] <;> rfl), fun K2 s2 r2 A2 B2 hs4 ha2 hb2 => ?_⟩
  cases hs4
  obtain rfl := (hs.uniq ha2).symm
  obtain rfl := (hr.uniq hb2).symm
  exact ⟨ah_wr (by first | omega | (dsimp only; omega) | rfl), _, rfl, fun h => absurd (by have := congrArg List.length h; rw [List.length_map, List.length_map] at this; omega) (nd_t g2)⟩
 ·have p2 := g2; try simp only [dd] at p2
  refine s_skip (se_seq (s_seq (s_seq (s_region hP hC (oA ?_)))))
  refine o_done (se_seq (s_block ?_))
  have hq0 : (A.length : Int) = B.length := nd_f g2
  refine s_loop (α := Int) (fun i s' => ∃ e, s' = ⟨e, 27, ⟨t, nx, wr⟩⟩ /\ e.get 0 = some (s) /\ e.get 1 = some (r) /\ e.get 5 = some (.int .i64 (i)) /\ 0 <= i /\ i <= A.length) (fun i => (A.length + 5 - i).toNat) 0 ⟨_, rfl, zh, zh, zh, by omega, by omega⟩ ?_
  rintro i s' ⟨e, rfl, heA0, heA1, heA5, i0, i1⟩
  refine s_seq (s_seq (s_region hP hC (oM ?_)))
  refine oM ?_
  refine os ((x_lenC hs.1 rfl rfl (by simp only [evs, ev_tmp, Tr.get_set, reduceIte, Nat.reduceEqDiff, Nat.reduceAdd, heA0, heA1, heA5] <;> rfl) rfl u38).trans (by rw [hla])) ?_
  refine os (x_bin rfl za za b_lss) ?_
  refine o_done (se_seq ?_)
  refine s_cond za (fun g4 => ?_) (fun g4 => ?_)
  ·have p4 := g4; try simp only [dd] at p4
   refine s_skip (se_seq (s_seq (s_block (s_seq ?_))))
   have hqB : nx <= BIG := by omega
   refine s_draw hP hC zr ?_
   refine dM ?_
   refine dM ?_
   obtain ⟨id1, of1, c1, hv1, hl1⟩ := hs.1.elem (i := i) ow (by rw [List.length_map]; omega)
   rw [map_at (L := A) ow] at hl1
   have hm1 := mem_L (L := A) (i := (i).toNat) ow
   refine ds ((x_indexC hv1 rfl za za u38 T.s22 ow (by rw [List.length_map]; omega))) ?_
   refine ds (x_load1 rfl za T.g22 (hl1 _ _ _ (fun _ _ => rfl))) ?_
   refine dM ?_
   refine dM ?_
   obtain ⟨id2, of2, c2, hv2, hl2⟩ := hr.1.elem (i := i) ow (by rw [List.length_map]; omega)
   rw [map_at (L := B) ow] at hl2
   have hm2 := mem_L (L := B) (i := (i).toNat) ow
   refine ds ((x_indexC hv2 rfl za za u38 T.s22 ow (by rw [List.length_map]; omega))) ?_
   refine ds (x_load1 rfl za T.g22 (hl2 _ _ _ (fun _ _ => rfl))) ?_
   have hx1 := hs.2 _ hm1
   have hx2 := hr.2 _ hm2
   refine d_callR (tab_hitR (same_c (nx := nx) hx1.1 hx2.1 ow ow hN (Nat.le_refl _))) (wA_none rfl) rfl rfl rfl (by simp only [evs, ev_tmp, Tr.get_set, reduceIte, Nat.reduceEqDiff, Nat.reduceAdd, heA0, heA1, heA5, g4] <;> rfl) zd (fun v1 ta1 na1 wa1 hR1 => ?_)
   obtain ⟨hh1, rfl⟩ := hR1
   cases hh1
   refine ds (x_not rfl zw) ?_
   refine d_done ⟨de_quiet (by simp only [List.all_append, List.all_cons, List.all_nil, infOf, decide_eq_true hqB, Bool.and_self, show Inf.skip.quiet = true from rfl]) zBG zBG, ?_⟩
   refine se_seq ?_
   refine s_cond za (fun g6 => ?_) (fun g6 => ?_)
   ·have p6 := g6; try simp only [dd] at p6
    refine s_seq (s_region hP hC (oA ?_))
    refine o_done (se_seq ?_)
    refine s_ret ?_
    refine se_block_ret ?_
    refine se_seq_ret ?_
    refine se_loop_ret ?_
    refine se_block_ret ?_
    refine se_seq_ret ?_
    refine ⟨.inr rfl, _, (by simp only [Tryz.results10, resA, Tr.get_set, reduceIte, Nat.reduceEqDiff, Nat.reduceAdd] <;> rfl), fun K2 s2 r2 A2 B2 hs4 ha2 hb2 => ?_⟩
    cases hs4
    obtain rfl := (hs.uniq ha2).symm
    obtain rfl := (hr.uniq hb2).symm
    exact ⟨ah_wr (by first | omega | (dsimp only; omega) | rfl), _, rfl, fun h => by
     have h1 := congrArg (fun l => l[i.toNat]!) h
     (try dsimp only at h1)
     rw [getElem!_pos _ i.toNat (by rw [List.length_map]; omega), getElem!_pos _ i.toNat (by rw [List.length_map]; omega), List.getElem_map, List.getElem_map, <-getElem!_pos A i.toNat ow, <-getElem!_pos B i.toNat ow] at h1
     exact absurd h1 (by simpa using g6)⟩
   ·have p6 := g6; try simp only [dd] at p6
    refine s_skip (se_block (se_seq (s_region hP hC (oM ?_))))
    refine os (x_bin rfl za (by rfl) b_add) ?_
    refine oA ?_
    refine o_done ?_
    refine se_loop ?_
    have hw1 : IntKind.i64.wrap (i + 1) = i + 1 := IntWalk.i64_in _ ow
    exact ⟨i + 1, ⟨_, st_wr ow, za, za, (by simp only [Tr.get_set, reduceIte, Nat.reduceEqDiff, Nat.reduceAdd, hw1, heA0, heA1, heA5, g4, g6] <;> rfl), by omega, by omega⟩, by omega⟩
  ·have p4 := g4; try simp only [dd] at p4
   refine s_exit ?_
   refine se_seq_exit ?_
   refine se_loop_exit ?_
   refine se_block_eq (se_seq (s_seq (s_region hP hC (oA ?_))))
   refine o_done (se_seq ?_)
   refine s_ret ?_
   refine ⟨.inr rfl, _, (by simp only [Tryz.results10, resA, Tr.get_set, reduceIte, Nat.reduceEqDiff, Nat.reduceAdd] <;> rfl), fun K2 s2 r2 A2 B2 hs4 ha2 hb2 => ?_⟩
   cases hs4
   obtain rfl := (hs.uniq ha2).symm
   obtain rfl := (hr.uniq hb2).symm
   exact ⟨ah_wr (by first | omega | (dsimp only; omega) | rfl), _, rfl, fun _ => rfl⟩
end Go.Proofs.YtmladpbadglecaaGreatDoor
namespace Go.Proofs.YtmladpbadglecaaGreatDoor
open Go Go.AM Go.Sort
theorem trN_last {l : List Int} : ∀ {n m : Nat}, trN l n = m + 1 -> ith l m ≠ 0
 | 0, m, h => by cases h
 | n + 1, m, h => by
  unfold trN at h
  split at h
  ·exact trN_last h
  ·rename_i hne
   have : n = m := by omega
   subst this
   exact hne
theorem ith_take {l : List Int} {n m : Nat} (h : m < n) : ith (l.take n) (m : Int) = ith l (m : Int) := by
 unfold ith
 rw [List.getD_eq_getElem?_getD, List.getD_eq_getElem?_getD, Int.toNat_natCast, List.getElem?_take_of_lt h]
theorem trim_trim (l : List Int) : trim (trim l) = trim l := by
 have hle := trN_le l l.length
 have hlen : (trim l).length = trN l l.length := by
  unfold trim
  rw [List.length_take]
  omega
 have h : trN (trim l) (trim l).length = (trim l).length := by
  rw [hlen]
  rcases hm : trN l l.length with _ | m
  ·rfl
  ·have h0 := trN_last hm
   have h1 : ith (trim l) (m : Int) ≠ 0 := by
    have : ith (trim l) (m : Int) = ith l (m : Int) := by
     unfold trim
     rw [hm]
     exact ith_take (Nat.lt_succ_self m)
    rw [this]
    exact h0
   unfold trN
   rw [if_neg h1]
 show (trim l).take (trN (trim l) (trim l).length) = trim l
 rw [h, List.take_length]
theorem cmpL_set : ∀ {t : List Int} {i : Nat} {n : Int} (h : i < t.length), n < t[i] -> cmpL (t.set i n) t < 0
 | [], i, n, h, _ => by simp at h
 | x :: t, 0, n, h, hn => by
  rw [List.set_cons_zero]
  unfold cmpL
  have hn : n < x := hn
  have : cmpI n x < 0 := cmpI_neg.2 hn
  rw [if_neg (by omega)]
  exact this
 | x :: t, i + 1, n, h, hn => by
  rw [List.set_cons_succ]
  unfold cmpL
  rw [if_pos (cmpI_zero.2 rfl)]
  exact cmpL_set (by simpa using h) (by simpa using hn)
def candA (t : List Int) (i : Nat) : List (List Int) :=
 trim (t.take i ++ t.drop (i + 1)) :: (if 0 < ith t i then [trim (t.set i 0), trim (t.set i (ith t i - 1))] else [])
def cands (t : List Int) : Nat -> List (List Int)
 | 0 => []
 | n + 1 => cands t n ++ candA t n
theorem cands_trim {t : List Int} {n : Nat} {x : List Int} (h : x ∈ cands t n) : trim x = x := by
 induction n with
 | zero => cases h
 | succ n ih =>
  rcases List.mem_append.1 h with h | h
  ·exact ih h
  ·unfold candA at h
   split at h <;> simp only [List.mem_cons, List.not_mem_nil, or_false] at h
   ·rcases h with rfl | rfl | rfl <;> exact trim_trim _
   ·rw [h]; exact trim_trim _
theorem less_short {x w : List Int} (h : x.length < (trim w).length) : lessW x w = true := lessW_iff.2 (.inl (by have := trim_le x; omega))
theorem less_set {t : List Int} {i : Nat} {n : Int} (ht : trim t = t) (h : i < t.length) (hn : n < ith t i) : lessW (trim (t.set i n)) t = true := by
 have hi : ith t (i : Int) = t[i] := by
  unfold ith
  rw [List.getD_eq_getElem?_getD, Int.toNat_natCast, List.getElem?_eq_getElem h]
  rfl
 rw [hi] at hn
 have hl := trim_le (t.set i n)
 rw [List.length_set] at hl
 rw [lessW_iff, trim_trim, ht]
 by_cases hq : (trim (t.set i n)).length < t.length
 ·exact .inl hq
 ·refine .inr ⟨by omega, ?_⟩
  have he : trim (t.set i n) = t.set i n := by
   have h1 : (trim (t.set i n)).length = (t.set i n).length := by rw [List.length_set]; omega
   unfold trim at h1 ⊢
   rw [List.length_take] at h1
   exact List.take_of_length_le (by omega)
  rw [he]
  exact cmpL_set h hn
theorem cands_less {t : List Int} (ht : trim t = t) {n : Nat} (hn : n <= t.length) {x : List Int} (h : x ∈ cands t n) : lessW x t = true := by
 induction n with
 | zero => cases h
 | succ n ih =>
  rcases List.mem_append.1 h with h | h
  ·exact ih (by omega) h
  ·have hs : lessW (trim (t.take n ++ t.drop (n + 1))) t = true := less_short (by
    have := trim_le (t.take n ++ t.drop (n + 1))
    rw [List.length_append, List.length_take, List.length_drop] at this
    rw [ht]
    omega)
   unfold candA at h
   split at h
   ·rename_i hp
    simp only [List.mem_cons, List.not_mem_nil, or_false] at h
    rcases h with rfl | rfl | rfl
    ·exact hs
    ·exact less_set ht (by omega) hp
    ·exact less_set ht (by omega) (by omega)
   ·simp only [List.mem_cons, List.not_mem_nil, or_false] at h
    rw [h]
    exact hs
def Strict (L : List (List Int)) : Prop := L.Pairwise (fun a b => lessW a b = true)
theorem strict_ext : ∀ {A B : List (List Int)}, Strict A -> Strict B -> (∀ x, x ∈ A ↔ x ∈ B) -> A = B
 | [], [], _, _, _ => rfl
 | [], b :: B, _, _, h => absurd ((h b).2 (List.mem_cons_self ..)) (by simp)
 | a :: A, [], _, _, h => absurd ((h a).1 (List.mem_cons_self ..)) (by simp)
 | a :: A, b :: B, hA, hB, h => by
  have hA' := List.pairwise_cons.1 hA
  have hB' := List.pairwise_cons.1 hB
  have hab : a = b := by
   rcases List.mem_cons.1 ((h a).1 (List.mem_cons_self ..)) with q | q
   ·exact q
   ·rcases List.mem_cons.1 ((h b).2 (List.mem_cons_self ..)) with p | p
    ·exact p.symm
    ·have := lessW_trans (hB'.1 a q) (hA'.1 b p)
     rw [lessW_self] at this
     cases this
  subst hab
  rw [strict_ext hA'.2 hB'.2 fun x => ?_]
  constructor
  ·intro hx
   rcases List.mem_cons.1 ((h x).1 (List.mem_cons_of_mem _ hx)) with q | q
   ·subst q
    have := hA'.1 x hx
    rw [lessW_self] at this
    cases this
   ·exact q
  ·intro hx
   rcases List.mem_cons.1 ((h x).2 (List.mem_cons_of_mem _ hx)) with q | q
   ·subst q
    have := hB'.1 x hx
    rw [lessW_self] at this
    cases this
   ·exact q
theorem cmp_mem {P : Array Wd} : ∀ {n : Nat}, n <= P.size -> ∀ x, (x ∈ (cmpP P n).map (·.2) ↔ ∃ i, i < n /\ (P[i]!).2 = x)
 | 0, _, x => by
  constructor
  ·intro h; cases h
  ·rintro ⟨i, h, _⟩; omega
 | n + 1, hn, x => by
  have ih := cmp_mem (P := P) (n := n) (by omega) x
  unfold cmpP
  split
  ·rw [List.map_append, List.mem_append, ih]
   simp only [List.map_cons, List.map_nil, List.mem_singleton]
   constructor
   ·rintro (⟨i, h, e⟩ | h)
    ·exact ⟨i, by omega, e⟩
    ·exact ⟨n, by omega, h.symm⟩
   ·rintro ⟨i, h, e⟩
    by_cases q : i = n
    ·subst q; exact .inr e.symm
    ·exact .inl ⟨i, by omega, e⟩
  ·rename_i hc
   rw [ih]
   constructor
   ·rintro ⟨i, h, e⟩
    exact ⟨i, by omega, e⟩
   ·rintro ⟨i, h, e⟩
    by_cases q : i = n
    ·subst q
     have h1 : ¬ i = 0 := fun q => hc (.inl q)
     have h2 : (P[i]!).2 = (P[i - 1]!).2 := Classical.not_not.1 fun q => hc (.inr q)
     exact ⟨i - 1, by omega, by rw [<-h2]; exact e⟩
    ·exact ⟨i, by omega, e⟩
theorem cmp_strict {P : Array Wd} (hs : SortedIn ltW 0 P.size P) (ht : ∀ i, i < P.size -> trim (P[i]!).2 = (P[i]!).2) : ∀ {n : Nat}, n <= P.size -> Strict ((cmpP P n).map (·.2))
 | 0, _ => .nil
 | n + 1, hn => by
  have ih := cmp_strict hs ht (n := n) (by omega)
  unfold cmpP
  split
  ·rename_i hc
   rw [List.map_append]
   refine List.pairwise_append.2 ⟨ih, by simp, fun a ha b hb => ?_⟩
   simp only [List.map_cons, List.map_nil, List.mem_singleton] at hb
   subst hb
   obtain ⟨i, hi, rfl⟩ := (cmp_mem (P := P) (by omega) a).1 ha
   have h1 : lessW (P[n]!).2 (P[i]!).2 = false := hs i n (Nat.zero_le _) hi (by omega)
   cases h2 : lessW (P[i]!).2 (P[n]!).2 with
   | true => rfl
   | false =>
    have he := lessW_tot h2 h1
    rw [ht i (by omega), ht n (by omega)] at he
    rcases hc with hc | hc
    ·omega
    ·exfalso
     apply hc
     by_cases q : i = n - 1
     ·rw [<-q, he]
     ·have h3 : lessW (P[n - 1]!).2 (P[i]!).2 = false := hs i (n - 1) (Nat.zero_le _) (by omega) (by omega)
      have h4 : lessW (P[n]!).2 (P[n - 1]!).2 = false := hs (n - 1) n (Nat.zero_le _) (by omega) (by omega)
      rw [<-he] at h4
      have h5 := lessW_tot h3 h4
      rw [ht i (by omega), ht (n - 1) (by omega)] at h5
      rw [<-he, h5]
  ·exact ih
theorem putK_lt {L : List Wd} {w : List Int} : ∀ {n j : Nat}, putK L w n <= j -> j < n -> lessW w (L[j]!).2 = true
 | 0, j, _, h => by omega
 | n + 1, j, h1, h2 => by
  unfold putK at h1
  split at h1
  ·rename_i hl
   by_cases q : j = n
   ·subst q; exact hl
   ·exact putK_lt h1 (by omega)
  ·omega
theorem putK_ge {L : List Wd} {w : List Int} : ∀ {n : Nat}, 0 < putK L w n -> lessW w (L[putK L w n - 1]!).2 = false
 | 0, h => by cases h
 | n + 1, h => by
  unfold putK at h ⊢
  split
  ·rename_i hl
   rw [if_pos hl] at h
   exact putK_ge h
  ·rename_i hl
   simpa using hl
theorem putL_mem {L : List Wd} {x : Wd} (y : List Int) : y ∈ (putL L x).map (·.2) ↔ y ∈ L.map (·.2) \/ y = x.2 := by
 unfold putL
 split
 ·rename_i h
  obtain ⟨z, hz, e⟩ := h
  constructor
  ·exact .inl
  ·rintro (h | rfl)
   ·exact h
   ·exact List.mem_map.2 ⟨z, hz, e⟩
 ·have hm : ∀ y, y ∈ L.map (·.2) ↔ y ∈ (L.take (putK L x.2 L.length)).map (·.2) \/ y ∈ (L.drop (putK L x.2 L.length)).map (·.2) := fun y => by
   conv => lhs; rw [<-List.take_append_drop (putK L x.2 L.length) L, List.map_append, List.mem_append]
  rw [List.map_append, List.map_append, List.mem_append, List.mem_append, hm]
  simp only [List.map_cons, List.map_nil, List.mem_singleton]
  constructor
  ·rintro ((h | h) | h)
   ·exact .inl (.inl h)
   ·exact .inr h
   ·exact .inl (.inr h)
  ·rintro ((h | h) | h)
   ·exact .inl (.inl h)
   ·exact .inr h
   ·exact .inl (.inr h)
theorem strict_at {L : List Wd} (h : Strict (L.map (·.2))) {i j : Nat} (hij : i < j) (hj : j < L.length) : lessW (L[i]!).2 (L[j]!).2 = true := by
 have := List.pairwise_iff_getElem.1 h i j (by rw [List.length_map]; omega) (by rw [List.length_map]; omega) hij
 rw [List.getElem_map, List.getElem_map] at this
 rw [getElem!_pos L i (by omega), getElem!_pos L j hj]
 exact this
theorem putL_strict {L : List Wd} {x : Wd} (h : Strict (L.map (·.2))) (ht : ∀ y ∈ L, trim y.2 = y.2) (hx : trim x.2 = x.2) : Strict ((putL L x).map (·.2)) := by
 unfold putL
 split
 ·exact h
 ·rename_i hno
  have hle := putK_le (L := L) (w := x.2) L.length
  have hlo : ∀ y ∈ L.take (putK L x.2 L.length), lessW y.2 x.2 = true := fun y hy => by
   obtain ⟨i, hi, rfl⟩ := List.getElem_of_mem hy
   rw [List.length_take] at hi
   rw [List.getElem_take, <-getElem!_pos L i (by omega)]
   have hk := putK_ge (L := L) (w := x.2) (n := L.length) (by omega)
   have hlast : lessW (L[putK L x.2 L.length - 1]!).2 x.2 = true := by
    cases q : lessW (L[putK L x.2 L.length - 1]!).2 x.2 with
    | true => rfl
    | false =>
     have he := lessW_tot q hk
     have hm := mem_L (L := L) (i := putK L x.2 L.length - 1) (by omega)
     rw [ht _ hm, hx] at he
     exact absurd ⟨_, hm, he⟩ hno
   by_cases q : i = putK L x.2 L.length - 1
   ·rw [q]; exact hlast
   ·exact lessW_trans (strict_at h (by omega) (by omega)) hlast
  have hhi : ∀ y ∈ L.drop (putK L x.2 L.length), lessW x.2 y.2 = true := fun y hy => by
   obtain ⟨i, hi, rfl⟩ := List.getElem_of_mem hy
   rw [List.length_drop] at hi
   rw [List.getElem_drop, <-getElem!_pos L _ (by omega)]
   exact putK_lt (n := L.length) (by omega) (by omega)
  have hdec : L.map (·.2) = (L.take (putK L x.2 L.length)).map (·.2) ++ (L.drop (putK L x.2 L.length)).map (·.2) := by rw [<-List.map_append, List.take_append_drop]
  have h' := h
  unfold Strict at h'
  rw [hdec] at h'
  obtain ⟨p1, p2, p3⟩ := List.pairwise_append.1 h'
  unfold Strict
  rw [List.map_append, List.map_append]
  refine List.pairwise_append.2 ⟨List.pairwise_append.2 ⟨p1, by simp, fun a ha b hb => ?_⟩, p2, fun a ha b hb => ?_⟩
  ·obtain ⟨y, hy, rfl⟩ := List.mem_map.1 ha
   simp only [List.map_cons, List.map_nil, List.mem_singleton] at hb
   rw [hb]
   exact hlo y hy
  ·obtain ⟨z, hz, rfl⟩ := List.mem_map.1 hb
   rcases List.mem_append.1 ha with ha | ha
   ·exact p3 a ha _ hb
   ·simp only [List.map_cons, List.map_nil, List.mem_singleton] at ha
    rw [ha]
    exact hhi z hz
end Go.Proofs.YtmladpbadglecaaGreatDoor
