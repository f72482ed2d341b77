/-
  Plain definitions: what the functions of Trust compute, on cells.
-/
import Derived.Test.YtohhcnehcjpekaaJTy
namespace Go.Proofs.Ytohhcnehcjpekaa
open Go.AM
abbrev askC (c : List Value) : List Value := (c.drop 2).take 21
abbrev resC (c : List Value) : List Value := (c.drop 23).take 22
abbrev wkr (c : List Value) : Int := intAt c 0
abbrev seqC (c : List Value) : Int := intAt c 1
def clashC (a b : List Value) : Bool := eqCs (askC a) (askC b) && !eqCs (resC a) (resC b)
def oddC (a : List Value) : Bool := decide (wkr a < 0) || (decide (6 ≤ wkr a) || (decide (seqC a < 0) || decide (63 < seqC a)))
def inR (n : Int) : Prop := -9223372036854775808 ≤ n ∧ n ≤ 9223372036854775807
instance (n : Int) : Decidable (inR n) := by unfold inR; infer_instance
def around (n m : Int) : Int := (if n < 0 then -(n + 1) else n) % m
theorem wr1 {i : Int} (h0 : 0 ≤ i) (h1 : i < 4611686018427387904) : IntKind.i64.wrap (i + 1) = i + 1 := IntWalk.i64_in _ (by omega)
theorem take_next {α : Type} {l : List α} {i : Int} (h0 : 0 ≤ i) (h1 : i < l.length) : l.take (i + 1).toNat = l.take i.toNat ++ [l[i.toNat]'(by omega)] := by
 rw [show (i + 1).toNat = i.toNat + 1 by omega, List.take_succ_eq_append_getElem (by omega)]
theorem take_end {α : Type} {l : List α} {i : Int} (h1 : l.length ≤ i) : l.take i.toNat = l := List.take_of_length_le (by omega)
theorem ith_eq {l : List Int} {i : Int} (h0 : 0 ≤ i) (h1 : i < l.length) : ith l i = l[i.toNat]'(by omega) := by
 unfold ith; rw [List.getD_eq_getElem?_getD, List.getElem?_eq_getElem (by omega)]; rfl
theorem in_next {l : List Int} {i n : Int} (h0 : 0 ≤ i) (h1 : i < l.length) (h : n ∉ l.take i.toNat) (hne : ith l i ≠ n) : n ∉ l.take (i + 1).toNat := by
 rw [take_next h0 h1, List.mem_append, List.mem_singleton, ← ith_eq h0 h1]
 rintro (h2 | h2)
 ·exact h h2
 ·exact hne h2.symm
theorem in_here {l : List Int} {i n : Int} (h0 : 0 ≤ i) (h1 : i < l.length) (he : ith l i = n) : n ∈ l := by
 rw [← he, ith_eq h0 h1]; exact List.getElem_mem _
theorem around_eq {n m x : Int} (hn : inR n) (hx : n < 0 ∧ x = (IntKind.i64.wrap (0 - IntKind.i64.wrap (n + 1))).tmod m ∨ 0 ≤ n ∧ x = n.tmod m) : x = around n m := by
 unfold inR at hn
 unfold around
 rcases hx with ⟨h, rfl⟩ | ⟨h, rfl⟩
 ·rw [IntWalk.i64_in (n + 1) (by omega), IntWalk.i64_in _ (by omega), if_pos h, Int.tmod_eq_emod_of_nonneg (by omega)]
  congr 1; omega
 ·rw [if_neg (by omega), Int.tmod_eq_emod_of_nonneg h]
theorem around_lo {n m : Int} (hm : 0 < m) : 0 ≤ around n m := Int.emod_nonneg _ (by omega)
theorem around_hi {n m : Int} (hm : 0 < m) : around n m < m := Int.emod_lt_of_pos _ hm
def idx (l : List Int) (n : Int) : Int := if n ∈ l then (l.idxOf n : Int) else -1
theorem idx_none {l : List Int} {n : Int} (h : n ∉ l) : idx l n = -1 := if_neg h
theorem idx_here {l : List Int} {i n : Int} (h0 : 0 ≤ i) (h1 : i < l.length) (h : n ∉ l.take i.toNat) (he : ith l i = n) : idx l n = i := by
 have hm := in_here h0 h1 he
 unfold idx
 rw [if_pos hm]
 have : l.idxOf n = i.toNat := by
  have e : l = l.take i.toNat ++ l[i.toNat]'(by omega) :: l.drop (i.toNat + 1) := by rw [← List.drop_eq_getElem_cons, List.take_append_drop]
  rw [e, List.idxOf_append, if_neg h, ← ith_eq h0 h1, he, List.idxOf_cons_self, List.length_take]
  omega
 rw [this]; omega
theorem idx_geq {l : List Int} {n : Int} : decide (0 ≤ idx l n) = decide (n ∈ l) := by
 unfold idx
 by_cases h : n ∈ l
 ·simp [h]
 ·simp [h]
theorem eq_next {l m : List Int} {i : Int} (hl : (l.length : Int) = m.length) (h0 : 0 ≤ i) (h1 : i < l.length) (h : l.take i.toNat = m.take i.toNat) (he : ith l i = ith m i) : l.take (i + 1).toNat = m.take (i + 1).toNat := by
 rw [take_next h0 h1, take_next h0 (by omega), h, ← ith_eq h0 h1, ← ith_eq h0 (by omega), he]
theorem eq_end {l m : List Int} {i : Int} (hl : (l.length : Int) = m.length) (h1 : l.length ≤ i) (h : l.take i.toNat = m.take i.toNat) : decide (l = m) = true := by
 rw [take_end h1, take_end (by omega)] at h
 exact decide_eq_true h
theorem eq_len {l m : List Int} (hl : ¬ (l.length : Int) = m.length) : decide (l = m) = false := decide_eq_false fun h => hl (by rw [h])
theorem eq_diff {l m : List Int} {i : Int} (h : ¬ ith l i = ith m i) : decide (l = m) = false := decide_eq_false fun e => h (by rw [e])
def sameR : List (List Value) → List (List Value) → Bool
 | [], [] => true
 | x :: L, y :: M => eqCs x y && sameR L M
 | _, _ => false
theorem sameR_iff {ks : List Lk} : ∀ {L M : List (List Value)}, cfs ks L → (sameR L M = true ↔ L = M)
 | [], [], _ => by simp [sameR]
 | [], _ :: _, _ => by simp [sameR]
 | _ :: _, [], _ => by simp [sameR]
 | x :: L, y :: M, h => by
  have h1 := h x (List.mem_cons_self ..)
  have h2 : cfs ks L := fun z hz => h z (List.mem_cons_of_mem _ hz)
  simp only [sameR, Bool.and_eq_true, eqCs_iff h1, sameR_iff h2, List.cons.injEq]
theorem sameR_self {ks : List Lk} {L : List (List Value)} (h : cfs ks L) : sameR L L = true := (sameR_iff h).2 rfl
theorem sameR_no {ks : List Lk} {L M : List (List Value)} (h : cfs ks L) (hn : ¬ L = M) : sameR L M = false := by
 cases hb : sameR L M with
 | false => rfl
 | true => exact absurd ((sameR_iff h).1 hb) hn
theorem nth_at {L : List (List Value)} {i : Int} (h0 : 0 ≤ i) (h1 : i < L.length) : nth L i = L[i.toNat]'(by omega) := nth_eq (by omega)
theorem eqR_next {ks : List Lk} {L M : List (List Value)} {i : Int} (hc : cfs ks L) (hl : (L.length : Int) = M.length) (h0 : 0 ≤ i) (h1 : i < L.length) (h : L.take i.toNat = M.take i.toNat) (he : eqCs (nth L i) (nth M i) = true) : L.take (i + 1).toNat = M.take (i + 1).toNat := by
 have := (eqCs_iff (cf_nth hc h0 h1)).1 he
 rw [take_next h0 h1, take_next h0 (by omega), h, ← nth_at h0 h1, ← nth_at h0 (by omega), this]
theorem eqR_end {ks : List Lk} {L M : List (List Value)} {i : Int} (hc : cfs ks L) (hl : (L.length : Int) = M.length) (h1 : L.length ≤ i) (h : L.take i.toNat = M.take i.toNat) : sameR L M = true := by
 rw [take_end h1, take_end (by omega)] at h
 rw [← h]; exact sameR_self hc
theorem eqR_len {ks : List Lk} {L M : List (List Value)} (hc : cfs ks L) (hl : ¬ (L.length : Int) = M.length) : sameR L M = false := sameR_no hc fun h => hl (by rw [h])
theorem eqR_diff {ks : List Lk} {L M : List (List Value)} {i : Int} (hc : cfs ks L) (h0 : 0 ≤ i) (h1 : i < L.length) (h : eqCs (nth L i) (nth M i) = false) : sameR L M = false := sameR_no hc fun e => by
 rw [e] at hc h h1
 rw [(eqCs_iff (cf_nth hc h0 h1)).2 rfl] at h
 cases h
def possL (L : List (List Value)) : Bool := L.all fun a => !oddC a
theorem all_next {f : List Value → Bool} {L : List (List Value)} {i : Int} (h0 : 0 ≤ i) (h1 : i < L.length) (h : (L.take i.toNat).all f = true) (he : f (nth L i) = true) : (L.take (i + 1).toNat).all f = true := by
 rw [take_next h0 h1, List.all_append, h, ← nth_at h0 h1]
 simp [he]
theorem all_end {f : List Value → Bool} {L : List (List Value)} {i : Int} (h1 : L.length ≤ i) (h : (L.take i.toNat).all f = true) : L.all f = true := by rw [take_end h1] at h; exact h
theorem all_no {f : List Value → Bool} {L : List (List Value)} {i : Int} (h0 : 0 ≤ i) (h1 : i < L.length) (he : f (nth L i) = false) : L.all f = false := by
 cases hb : L.all f with
 | false => rfl
 | true =>
  have := List.all_eq_true.1 hb _ (nth_mem h0 h1)
  rw [he] at this; cases this
def clI (L : List (List Value)) (i k : Int) : List (List Value) := ((List.range k.toNat).filter fun (j : Nat) => decide (i < (j : Int)) && clashC (nth L i) (nth L j)).map fun (j : Nat) => [.int .i64 i, .int .i64 j]
def clO (L : List (List Value)) (i : Int) : List (List Value) := (List.range i.toNat).flatMap fun (j : Nat) => clI L j L.length
def clashesL (L : List (List Value)) : List (List Value) := clO L L.length
def idxP (p : List Value → Bool) (L : List (List Value)) : Int := match L.findIdx? p with | some k => k | none => -1
theorem idxP_none {p : List Value → Bool} {L : List (List Value)} (h : L.all (fun a => !p a) = true) : idxP p L = -1 := by
 unfold idxP
 have : L.findIdx? p = none := by
  rw [List.findIdx?_eq_none_iff]
  intro x hx
  have := List.all_eq_true.1 h x hx
  simpa using this
 rw [this]
theorem idxP_here {p : List Value → Bool} {L : List (List Value)} {i : Int} (h0 : 0 ≤ i) (h1 : i < L.length) (h : (L.take i.toNat).all (fun a => !p a) = true) (he : p (nth L i) = true) : idxP p L = i := by
 unfold idxP
 have : L.findIdx? p = some i.toNat := by
  rw [List.findIdx?_eq_some_iff_getElem]
  refine ⟨by omega, by rw [nth_at h0 h1] at he; exact he, fun j hj => ?_⟩
  have hl : j < (L.take i.toNat).length := by rw [List.length_take]; omega
  have := List.all_eq_true.1 h _ (List.getElem_mem hl)
  rw [List.getElem_take] at this
  simpa using this
 rw [this]
 show ((i.toNat : Nat) : Int) = i
 omega
theorem idxP_geq {p : List Value → Bool} {L : List (List Value)} : decide (0 ≤ idxP p L) = L.any p := by
 unfold idxP
 cases h : L.findIdx? p with
 | none =>
  rw [List.findIdx?_eq_none_iff] at h
  have : L.any p = false := by rw [List.any_eq_false]; intro x hx; simp [h x hx]
  rw [this]; rfl
 | some k =>
  rw [List.findIdx?_eq_some_iff_getElem] at h
  obtain ⟨hl, hp, _⟩ := h
  have : L.any p = true := List.any_eq_true.2 ⟨_, List.getElem_mem hl, hp⟩
  rw [this]
  simp
def keptL (ws : List Int) (L : List (List Value)) : List (List Value) := L.filter fun a => !decide (wkr a ∈ ws)
theorem filter_hit {f : List Value → Bool} {L : List (List Value)} {i : Int} (h0 : 0 ≤ i) (h1 : i < L.length) (h : f (nth L i) = true) : (L.take (i + 1).toNat).filter f = (L.take i.toNat).filter f ++ [nth L i] := by
 rw [take_next h0 h1, List.filter_append, ← nth_at h0 h1]; simp [h]
theorem filter_skip {f : List Value → Bool} {L : List (List Value)} {i : Int} (h0 : 0 ≤ i) (h1 : i < L.length) (h : f (nth L i) = false) : (L.take (i + 1).toNat).filter f = (L.take i.toNat).filter f := by
 rw [take_next h0 h1, List.filter_append, ← nth_at h0 h1]; simp [h]
theorem filter_len {f : List Value → Bool} {L : List (List Value)} {i : Int} : ((L.take i.toNat).filter f).length ≤ L.length := Nat.le_trans (List.length_filter_le _ _) (List.length_take_le' _ _)
theorem keptL_cfs {ks : List Lk} {ws : List Int} {L : List (List Value)} (h : cfs ks L) : cfs ks (keptL ws L) := cfs_sub h fun _ hx => (List.mem_filter.1 hx).1
theorem keptL_len {ws : List Int} {L : List (List Value)} : (keptL ws L).length ≤ L.length := List.length_filter_le _ _
def explainL (L : List (List Value)) (w : List Int) : Bool := (clashesL (keptL w L)).isEmpty
def gvStep (x : List Value) (acc : List Int) (a : List Value) : List Int := if eqCs (askC a) (askC x) = true ∧ eqCs (resC a) (resC x) = true ∧ wkr a ∉ acc then acc ++ [wkr a] else acc
def gvF (x : List Value) (L : List (List Value)) : List Int := L.foldl (gvStep x) []
theorem gv_next {x : List Value} {L : List (List Value)} {i : Int} (h0 : 0 ≤ i) (h1 : i < L.length) : gvF x (L.take (i + 1).toNat) = gvStep x (gvF x (L.take i.toNat)) (nth L i) := by
 rw [take_next h0 h1, ← nth_at h0 h1]
 unfold gvF
 rw [List.foldl_append]; rfl
def lnOk (L : List (List Value)) (u : List Int) : Bool := u.all fun k => decide (0 ≤ k) && decide (k < L.length)
def lnF (L : List (List Value)) (w u : List Int) : List Int := u.filter fun k => decide (wkr (nth L k) ∈ w)
theorem ith_mem {l : List Int} {i : Int} (h0 : 0 ≤ i) (h1 : i < l.length) : ith l i ∈ l := by rw [ith_eq h0 h1]; exact List.getElem_mem _
theorem lnOk_next {L : List (List Value)} {u : List Int} {i : Int} (h0 : 0 ≤ i) (h1 : i < u.length) (h : lnOk L (u.take i.toNat) = true) (h2 : 0 ≤ ith u i) (h3 : ith u i < L.length) : lnOk L (u.take (i + 1).toNat) = true := by
 unfold lnOk at h ⊢
 rw [take_next h0 h1, List.all_append, h, ← ith_eq h0 h1]
 simp [h2, h3]
theorem lnOk_no {L : List (List Value)} {u : List Int} {i : Int} (h0 : 0 ≤ i) (h1 : i < u.length) (h2 : ith u i < 0 ∨ L.length ≤ ith u i) : lnOk L u = false := by
 cases hb : lnOk L u with
 | false => rfl
 | true =>
  have := List.all_eq_true.1 hb _ (ith_mem h0 h1)
  simp only [Bool.and_eq_true, decide_eq_true_eq] at this
  omega
theorem filterI_hit {f : Int → Bool} {u : List Int} {i : Int} (h0 : 0 ≤ i) (h1 : i < u.length) (h : f (ith u i) = true) : (u.take (i + 1).toNat).filter f = (u.take i.toNat).filter f ++ [ith u i] := by
 rw [take_next h0 h1, List.filter_append, ← ith_eq h0 h1]; simp [h]
theorem filterI_skip {f : Int → Bool} {u : List Int} {i : Int} (h0 : 0 ≤ i) (h1 : i < u.length) (h : f (ith u i) = false) : (u.take (i + 1).toNat).filter f = (u.take i.toNat).filter f := by
 rw [take_next h0 h1, List.filter_append, ← ith_eq h0 h1]; simp [h]
theorem filterI_len2 {f : Int → Bool} {u : List Int} {i : Int} (h0 : 0 ≤ i) : (((u.take i.toNat).filter f).length : Int) ≤ i := by
 have h1 := List.length_filter_le f (u.take i.toNat)
 have h2 := List.length_take_le i.toNat u
 omega
def rightN (n : Int) : List Value :=
 [.int .i64 (n.tmod 3), .string (if n.tmod 3 = 0 then .empty else ⟨#[116]⟩), .int .i64 0, .int .i64 (IntKind.i64.wrap (1 + n.tmod 5)), .int .i64 0, .int .i64 0, .int .u8 (IntKind.u8.wrap n),
  .int .u8 0, .int .u8 0, .int .u8 0, .int .u8 0, .int .u8 0, .int .u8 0, .int .u8 0, .int .u8 0, .int .u8 0, .int .u8 0, .int .u8 0, .int .u8 0, .int .u8 0, .int .u8 0, .int .u8 0]
def rightC (seed : Int) : List Value := rightN (around seed 4096)
theorem rightC_cf (s : Int) : cf T.K41 (rightC s) = true := rfl
def seedC (x : List Value) : Int := intAt x 20
def wrongC (r : List Value) (how b : Int) : List Value :=
 if around how 7 = 0 then splice r 0 [.int .i64 ((IntKind.i64.wrap (IntKind.i64.wrap (intAt r 0 + 1) + around b 4)).tmod 5)]
 else if around how 7 = 1 then splice r 1 [.string (strAt r 1 ++ ⟨#[120]⟩)]
 else if around how 7 = 2 then splice r 2 [.int .i64 (IntKind.i64.wrap (IntKind.i64.wrap (intAt r 2 + 1) + around b 3))]
 else if around how 7 = 3 then splice r 3 [.int .i64 (IntKind.i64.wrap (IntKind.i64.wrap (intAt r 3 + 1) + around b 3))]
 else if around how 7 = 4 then splice r 4 [.int .i64 (IntKind.i64.wrap (IntKind.i64.wrap (intAt r 4 + 1) + around b 3))]
 else if around how 7 = 5 then splice r 5 [.int .i64 (IntKind.i64.wrap (IntKind.i64.wrap (intAt r 5 - 1) - around b 3))]
 else splice r (6 + (around b 16).toNat * 1) [.int .u8 (IntKind.u8.wrap ((BitVec.ofInt 8 (intAt r (6 + (around b 16).toNat * 1)) ^^^ BitVec.ofInt 8 (IntKind.u8.wrap (IntKind.i64.wrap (1 + around b 255)))).toNat : Int))]
theorem k41_root {b : Int} : T.K41[6 + (around b 16).toNat * 1]? = some (.int .u8) := by
 have h1 := around_lo (n := b) (m := 16) (by decide)
 have h2 := around_hi (n := b) (m := 16) (by decide)
 have key : ∀ j : Fin 16, T.K41[6 + j.val * 1]? = some (.int .u8) := by decide
 exact key ⟨(around b 16).toNat, by omega⟩
theorem wrongC_cf {r : List Value} {how b : Int} (h : cf T.K41 r = true) : cf T.K41 (wrongC r how b) = true := by
 unfold wrongC
 repeat' split
 all_goals first | exact cf_splice1 h rfl rfl | exact cf_splice1 h k41_root rfl
def ansW (w q : Int) (ask res : List Value) : List Value := .int .i64 w :: .int .i64 q :: (ask ++ (res ++ [.string .empty]))
def zres : List Value := [.int .i64 0, .string .empty, .int .i64 0, .int .i64 0, .int .i64 0, .int .i64 0, .int .u8 0, .int .u8 0, .int .u8 0, .int .u8 0, .int .u8 0, .int .u8 0, .int .u8 0, .int .u8 0, .int .u8 0, .int .u8 0, .int .u8 0, .int .u8 0, .int .u8 0, .int .u8 0, .int .u8 0, .int .u8 0]
def askN (seed : Int) : List Value := [.int .u8 0, .int .u8 0, .int .u8 0, .int .u8 0, .int .u8 0, .int .u8 0, .int .u8 0, .int .u8 0, .int .u8 0, .int .u8 0, .int .u8 0, .int .u8 0, .int .u8 0, .int .u8 0, .int .u8 0, .int .u8 0, .string ⟨#[116]⟩, .int .i64 0, .int .i64 0, .int .i64 0, .int .i64 seed]
theorem ansW_cf {w q : Int} {ask res : List Value} (ha : cf T.K37 ask = true) (hr : cf T.K41 res = true) : cf T.K43 (ansW w q ask res) = true := by
 have e : T.K43 = [.int .i64, .int .i64] ++ (T.K37 ++ (T.K41 ++ [.str])) := rfl
 rw [e]
 exact cf_append (vs := [.int .i64 w, .int .i64 q]) rfl (cf_append ha (cf_append hr rfl))
theorem ansW_ask {w q : Int} {ask res : List Value} (ha : ask.length = 21) : ((ansW w q ask res).drop 2).take 21 = ask := by
 show (ask ++ (res ++ [Value.string .empty])).take 21 = ask
 rw [← ha, List.take_left']; rfl
theorem ansW_splice {w q : Int} {ask res vs : List Value} (ha : ask.length = 21) (hr : res.length = 22) (hv : vs.length = 22) : splice (ansW w q ask res) 23 vs = ansW w q ask vs := by
 unfold splice ansW
 have e1 : (Value.int .i64 w :: Value.int .i64 q :: (ask ++ (res ++ [Value.string .empty]))).take 23 = Value.int .i64 w :: Value.int .i64 q :: ask := by
  simp only [List.take_succ_cons]
  rw [← ha, List.take_left']; rfl
 have e2 : (Value.int .i64 w :: Value.int .i64 q :: (ask ++ (res ++ [Value.string .empty]))).drop (23 + vs.length) = [Value.string .empty] := by
  rw [hv]
  simp only [Nat.reduceAdd, List.drop_succ_cons]
  rw [← List.append_assoc, List.drop_left' (by rw [List.length_append, ha, hr])]
 rw [e1, e2]
 simp
abbrev numM (n : Int) : Int := around n 65536
def wkM (n : Int) : Int := (numM n).tmod 6
def sdM (n : Int) : Int := (IntKind.i64.wrap ((numM n).tdiv 6)).tmod 4
def forge (bits w : Int) : Bool := decide (((around bits 64).fdiv (2 ^ (min (IntKind.u64.wrap w).toNat IntKind.i64.bits))).tmod 2 = 1)
def resM (bits n : Int) : List Value := if forge bits (wkM n) && decide (0 < (IntKind.i64.wrap ((numM n).tdiv 24)).tmod 4) then wrongC (rightC (sdM n)) ((IntKind.i64.wrap ((numM n).tdiv 96)).tmod 3) (IntKind.i64.wrap ((numM n).tdiv 288)) else rightC (sdM n)
def ansM (bits i n : Int) : List Value := ansW (wkM n) (i.tmod 64) (askN (sdM n)) (resM bits n)
def mkA (l : List Int) (bits i : Int) : List (List Value) := (List.range i.toNat).map fun (j : Nat) => ansM bits j (ith l j)
def mkR (l : List Int) (i : Int) : List (List Value) := (List.range i.toNat).map fun (j : Nat) => rightC (sdM (ith l j))
theorem resM_cf (bits n : Int) : cf T.K41 (resM bits n) = true := by
 unfold resM; split
 ·exact wrongC_cf (rightC_cf _)
 ·exact rightC_cf _
theorem ansM_cf (bits i n : Int) : cf T.K43 (ansM bits i n) = true := ansW_cf rfl (resM_cf _ _)
theorem mkA_next {l : List Int} {bits i : Int} (h0 : 0 ≤ i) : mkA l bits (i + 1) = mkA l bits i ++ [ansM bits i (ith l i)] := by
 unfold mkA
 have e : ((i.toNat : Nat) : Int) = i := by omega
 rw [show (i + 1).toNat = i.toNat + 1 by omega, List.range_succ, List.map_append]
 simp [e]
theorem mkR_next {l : List Int} {i : Int} (h0 : 0 ≤ i) : mkR l (i + 1) = mkR l i ++ [rightC (sdM (ith l i))] := by
 unfold mkR
 have e : ((i.toNat : Nat) : Int) = i := by omega
 rw [show (i + 1).toNat = i.toNat + 1 by omega, List.range_succ, List.map_append]
 simp [e]
theorem mkA_len {l : List Int} {bits i : Int} : (mkA l bits i).length = i.toNat := by simp [mkA]
theorem mkR_len {l : List Int} {i : Int} : (mkR l i).length = i.toNat := by simp [mkR]
theorem mkA_cfs {l : List Int} {bits i : Int} : cfs T.K43 (mkA l bits i) := by
 intro x hx
 obtain ⟨j, _, rfl⟩ := List.mem_map.1 hx
 exact ansM_cf _ _ _
theorem mkR_cfs {l : List Int} {i : Int} : cfs T.K41 (mkR l i) := by
 intro x hx
 obtain ⟨j, _, rfl⟩ := List.mem_map.1 hx
 exact rightC_cf _
theorem numM_lo (n : Int) : 0 ≤ numM n := around_lo (by decide)
theorem numM_hi (n : Int) : numM n < 65536 := around_hi (by decide)
theorem quo_num {n d : Int} (hd : 1 ≤ d) : IntKind.i64.wrap ((numM n).tdiv d) = numM n / d := IntWalk.i64_quo _ _ ⟨numM_lo n, by have := numM_hi n; omega, hd⟩
theorem quo_range {n d : Int} (hd : 1 ≤ d) : 0 ≤ IntKind.i64.wrap ((numM n).tdiv d) ∧ IntKind.i64.wrap ((numM n).tdiv d) < 65536 := by
 rw [quo_num hd]
 have := IntWalk.tdiv_le _ d (numM_lo n) hd
 have := numM_hi n
 omega
theorem tmod_range {a b : Int} (ha : 0 ≤ a) (hb : 0 < b) : 0 ≤ a.tmod b ∧ a.tmod b < b := by
 rw [Int.tmod_eq_emod_of_nonneg ha]
 exact ⟨Int.emod_nonneg _ (by omega), Int.emod_lt_of_pos _ hb⟩
theorem sdM_range (n : Int) : 0 ≤ sdM n ∧ sdM n < 4 := tmod_range (quo_range (by decide)).1 (by decide)
theorem strRight (s : Int) : (strAt (rightC s) 1).size ≤ 1000 := by
 show (if (around s 4096).tmod 3 = 0 then ByteArray.empty else ⟨#[116]⟩ : ByteArray).size ≤ 1000
 split <;> decide
theorem all_inR {l : List Int} {i : Int} (h : l.all (fun n => decide (inR n)) = true) (h0 : 0 ≤ i) (h1 : i < l.length) : inR (ith l i) := by
 have := List.all_eq_true.1 h _ (ith_mem h0 h1)
 simpa using this
def badR (L R : List (List Value)) (i k : Int) : Bool := eqCs (askC (nth L i)) (askC (nth L k)) && !eqCs (nth R i) (nth R k)
def clashR (L R : List (List Value)) : Bool := (List.range L.length).any fun (i : Nat) => (List.range L.length).any fun (k : Nat) => decide (i < k) && badR L R i k
theorem clashR_yes {L R : List (List Value)} {i k : Int} (h0 : 0 ≤ i) (h1 : i < k) (h2 : k < L.length) (h : badR L R i k = true) : clashR L R = true := by
 unfold clashR
 rw [List.any_eq_true]
 refine ⟨i.toNat, List.mem_range.2 (by omega), ?_⟩
 rw [List.any_eq_true]
 refine ⟨k.toNat, List.mem_range.2 (by omega), ?_⟩
 rw [show ((i.toNat : Nat) : Int) = i by omega, show ((k.toNat : Nat) : Int) = k by omega, h]
 simp; omega
theorem clashR_no {L R : List (List Value)} (h : ∀ i k : Int, 0 ≤ i → i < k → k < L.length → badR L R i k = false) : clashR L R = false := by
 unfold clashR
 rw [List.any_eq_false]
 intro i hi
 rw [Bool.not_eq_true, List.any_eq_false]
 intro k hk
 have := List.mem_range.1 hi
 have := List.mem_range.1 hk
 by_cases hik : i < k
 ·rw [h i k (by omega) (by omega) (by omega)]; simp
 ·simp [hik]
def jStep (L R : List (List Value)) (w : Int) (acc : List Int × List Int) (i : Int) : List Int × List Int :=
 if wkr (nth L i) = w ∧ eqCs (resC (nth L i)) (nth R i) = false ∧ w ∉ acc.1 then (acc.1 ++ [w], acc.2 ++ [i]) else acc
def jIn (L R : List (List Value)) (w : Int) (acc : List Int × List Int) (i : Int) : List Int × List Int := (List.range i.toNat).foldl (fun acc (j : Nat) => jStep L R w acc j) acc
def jOut (L R : List (List Value)) (w : Int) : List Int × List Int := (List.range w.toNat).foldl (fun acc (v : Nat) => jIn L R v acc L.length) ([], [])
theorem jIn_next {L R : List (List Value)} {w i : Int} {acc : List Int × List Int} (h0 : 0 ≤ i) : jIn L R w acc (i + 1) = jStep L R w (jIn L R w acc i) i := by
 unfold jIn
 rw [show (i + 1).toNat = i.toNat + 1 by omega, List.range_succ, List.foldl_append]
 show jStep L R w _ ((i.toNat : Nat) : Int) = _
 rw [show ((i.toNat : Nat) : Int) = i by omega]
theorem jOut_next {L R : List (List Value)} {w : Int} (h0 : 0 ≤ w) : jOut L R (w + 1) = jIn L R w (jOut L R w) L.length := by
 unfold jOut
 rw [show (w + 1).toNat = w.toNat + 1 by omega, List.range_succ, List.foldl_append]
 show jIn L R ((w.toNat : Nat) : Int) _ _ = _
 rw [show ((w.toNat : Nat) : Int) = w by omega]
theorem jIn_hit {L R : List (List Value)} {w i : Int} {acc : List Int × List Int} {W A : List Int} (h0 : 0 ≤ i) (h : (W, A) = jIn L R w acc i) (h1 : wkr (nth L i) = w) (h2 : eqCs (resC (nth L i)) (nth R i) = false) (h3 : w ∉ W) : (W ++ [w], A ++ [i]) = jIn L R w acc (i + 1) := by
 rw [jIn_next h0, ← h]
 exact (if_pos ⟨h1, h2, h3⟩).symm
theorem jIn_skip {L R : List (List Value)} {w i : Int} {acc : List Int × List Int} {W A : List Int} (h0 : 0 ≤ i) (h : (W, A) = jIn L R w acc i) (h1 : ¬ wkr (nth L i) = w ∨ eqCs (resC (nth L i)) (nth R i) = true ∨ w ∈ W) : (W, A) = jIn L R w acc (i + 1) := by
 rw [jIn_next h0, ← h]
 refine (if_neg ?_).symm
 rintro ⟨a, b, c⟩
 rcases h1 with h1 | h1 | h1
 ·exact h1 a
 ·rw [h1] at b; cases b
 ·exact c h1
theorem jStep_len {L R : List (List Value)} {w i : Int} {acc : List Int × List Int} (h : acc.1.length = acc.2.length) : (jStep L R w acc i).1.length = (jStep L R w acc i).2.length ∧ (jStep L R w acc i).1.length ≤ acc.1.length + 1 := by
 unfold jStep
 split
 ·simp [h]
 ·exact ⟨h, by omega⟩
theorem jIn_len {L R : List (List Value)} {w : Int} {acc : List Int × List Int} (n : Nat) (h : acc.1.length = acc.2.length) : (jIn L R w acc n).1.length = (jIn L R w acc n).2.length ∧ (jIn L R w acc n).1.length ≤ acc.1.length + n := by
 induction n with
 | zero => exact ⟨h, by show acc.1.length ≤ _; omega⟩
 | succ n ih =>
  have := jStep_len (L := L) (R := R) (w := w) (i := n) ih.1
  rw [show ((n + 1 : Nat) : Int) = (n : Int) + 1 by omega, jIn_next (by omega)]
  exact ⟨this.1, by omega⟩
theorem jOut_len {L R : List (List Value)} (n : Nat) : (jOut L R n).1.length = (jOut L R n).2.length ∧ (jOut L R n).1.length ≤ n * L.length := by
 induction n with
 | zero => exact ⟨rfl, Nat.zero_le _⟩
 | succ n ih =>
  have := jIn_len (L := L) (R := R) (w := n) L.length ih.1
  rw [show ((n + 1 : Nat) : Int) = (n : Int) + 1 by omega, jOut_next (by omega), Nat.add_mul]
  exact ⟨this.1, by omega⟩
def judgeE (L R : List (List Value)) : Int := if decide (R.length = L.length) && possL L then (if clashR L R then 14 else 0) else 1
def judgeW (L R : List (List Value)) : List Int := if judgeE L R = 0 then (jOut L R 6).1 else []
def judgeA (L R : List (List Value)) : List Int := if judgeE L R = 0 then (jOut L R 6).2 else []
theorem judge_len {L R : List (List Value)} : (judgeW L R).length = (judgeA L R).length := by
 unfold judgeW judgeA
 split
 ·exact (jOut_len 6).1
 ·rfl
theorem jlen {L R : List (List Value)} {w i : Int} {W A : List Int} (hw : 0 ≤ w) (hw6 : w < 6) (hi : 0 ≤ i) (hin : i ≤ L.length) (hb : L.length ≤ 1000) (h : (W, A) = jIn L R w (jOut L R w) i) : W.length = A.length ∧ W.length ≤ 10000 := by
 have h1 := jOut_len (L := L) (R := R) w.toNat
 rw [show ((w.toNat : Nat) : Int) = w by omega] at h1
 have h2 := jIn_len (L := L) (R := R) (w := w) i.toNat h1.1
 rw [show ((i.toNat : Nat) : Int) = i by omega, ← h] at h2
 have h3 : w.toNat * L.length ≤ 6 * 1000 := Nat.mul_le_mul (by omega) hb
 exact ⟨h2.1, by have := h2.2; simp only at this; omega⟩
theorem badR_no1 {L R : List (List Value)} {i k : Int} (h : eqCs (askC (nth L i)) (askC (nth L k)) = false) : badR L R i k = false := by unfold badR; rw [h]; rfl
theorem badR_no2 {L R : List (List Value)} {i k : Int} (h : eqCs (nth R i) (nth R k) = true) : badR L R i k = false := by unfold badR; rw [h]; simp
theorem badR_yes {L R : List (List Value)} {i k : Int} (h : eqCs (askC (nth L i)) (askC (nth L k)) = true) (h2 : eqCs (nth R i) (nth R k) = false) : badR L R i k = true := by unfold badR; rw [h, h2]; rfl
theorem bad_step {L R : List (List Value)} {i k : Int} (h5 : ∀ b : Int, i < b → b < k → badR L R i b = false) (h : badR L R i k = false) : ∀ b : Int, i < b → b < k + 1 → badR L R i b = false := by
 intro b h1 h2
 rcases Int.lt_or_le b k with h3 | h3
 ·exact h5 b h1 h3
 ·have : b = k := by omega
  rw [this]; exact h
theorem bad_next {L R : List (List Value)} {i n : Int} (h2 : ∀ a b : Int, 0 ≤ a → a < b → b < n → a < i → badR L R a b = false) (h5 : ∀ b : Int, i < b → b < n → badR L R i b = false) :
  ∀ a b : Int, 0 ≤ a → a < b → b < n → a < i + 1 → badR L R a b = false := by
 intro a b ha hab hbn hai
 rcases Int.lt_or_le a i with h3 | h3
 ·exact h2 a b ha hab hbn h3
 ·have : a = i := by omega
  rw [this] at hab ⊢; exact h5 b hab hbn
theorem judgeE_1 {L R : List (List Value)} (h : ¬ (R.length : Int) = L.length ∨ possL L = false) : judgeE L R = 1 := by
 unfold judgeE
 rw [if_neg]
 simp only [Bool.and_eq_true, decide_eq_true_eq]
 rintro ⟨h1, h2⟩
 rcases h with h | h
 ·exact h (by omega)
 ·rw [h] at h2; cases h2
theorem judgeE_14 {L R : List (List Value)} (h : (R.length : Int) = L.length) (h1 : possL L = true) (h2 : clashR L R = true) : judgeE L R = 14 := by
 unfold judgeE
 rw [if_pos (by simp only [Bool.and_eq_true, decide_eq_true_eq]; exact ⟨by omega, h1⟩), if_pos h2]
theorem judgeE_0 {L R : List (List Value)} (h : (R.length : Int) = L.length) (h1 : possL L = true) (h2 : clashR L R = false) : judgeE L R = 0 := by
 unfold judgeE
 rw [if_pos (by simp only [Bool.and_eq_true, decide_eq_true_eq]; exact ⟨by omega, h1⟩), if_neg (by rw [h2]; simp)]
def askK (a : List Value) : Value := .agg ⟨askC a⟩
structure KInv (L R : List (List Value)) (i : Int) (M : List (Value × Value)) : Prop where
 key : ∀ p ∈ M, KeyOk Try.prog 37 T.K37 p.1
 val : ∀ p ∈ M, free1 p.2 = true
 has : ∀ j : Int, 0 ≤ j → j < i → lookM (askK (nth L j)) M = some (.agg ⟨nth R j⟩)
 out : ∀ k v, lookM k M = some v → ∃ j : Int, 0 ≤ j ∧ j < i ∧ eqCs (kc k) (askC (nth L j)) = true ∧ v = .agg ⟨nth R j⟩
theorem askK_ok {a : List Value} (h : cf T.K43 a = true) : KeyOk Try.prog 37 T.K37 (askK a) := keyA T.g37 (cf_part 2 21 h rfl)
theorem KInv.start {L R : List (List Value)} : KInv L R 0 [] := ⟨by simp, by simp, fun j h1 h2 => by omega, fun k v h => by cases h⟩
theorem eqCs_symm {ks : List Lk} {a b : List Value} (ha : cf ks a = true) (hb : cf ks b = true) (h : eqCs a b = true) : eqCs b a = true := by
 rw [(eqCs_iff ha).1 h]; exact (eqCs_iff hb).2 rfl
theorem KInv.bad {L R : List (List Value)} {i : Int} {M : List (Value × Value)} {rv : List Value} (h : KInv L R i M) (hL : cfs T.K43 L) (h0 : 0 ≤ i) (h1 : i < L.length) (hl : lookM (askK (nth L i)) M = some (.agg ⟨rv⟩)) (hne : eqCs rv (nth R i) = false) : clashR L R = true := by
 obtain ⟨j, k1, k2, k3, k4⟩ := h.out _ _ hl
 have k4 : rv = nth R j := by cases k4; rfl
 rw [k4] at hne
 have ha : cf T.K37 (askC (nth L i)) = true := cf_part 2 21 (cf_nth hL h0 h1) rfl
 have hb : cf T.K37 (askC (nth L j)) = true := cf_part 2 21 (cf_nth hL k1 (by omega)) rfl
 exact clashR_yes k1 k2 h1 (badR_yes (eqCs_symm ha hb k3) hne)
theorem KInv.val_shape {L R : List (List Value)} {i : Int} {M : List (Value × Value)} {v : Value} (h : KInv L R i M) (hR : cfs T.K41 R) (hl : (R.length : Int) = L.length) (h1 : i < L.length) (hlk : lookM (askK (nth L i)) M = some v) : ∃ rv, v = .agg ⟨rv⟩ ∧ cf T.K41 rv = true := by
 obtain ⟨j, k1, k2, _, k4⟩ := h.out _ _ hlk
 exact ⟨_, k4, cf_nth hR k1 (by omega)⟩
theorem KInv.same {L R : List (List Value)} {i : Int} {M : List (Value × Value)} {rv : List Value} (h : KInv L R i M) (hrv : cf T.K41 rv = true) (hl : lookM (askK (nth L i)) M = some (.agg ⟨rv⟩)) (he : eqCs rv (nth R i) = true) : KInv L R (i + 1) M := by
 have heq := (eqCs_iff hrv).1 he
 refine ⟨h.key, h.val, fun j k1 k2 => ?_, fun k v hk => ?_⟩
 ·rcases Int.lt_or_le j i with h3 | h3
  ·exact h.has j k1 h3
  ·have : j = i := by omega
   rw [this, hl, heq]
 ·obtain ⟨j, k1, k2, k3⟩ := h.out k v hk
  exact ⟨j, k1, by omega, k3⟩
theorem KInv.new {L R : List (List Value)} {i : Int} {M : List (Value × Value)} (h : KInv L R i M) (hL : cfs T.K43 L) (hR : cfs T.K41 R) (hlen : (R.length : Int) = L.length) (h0 : 0 ≤ i) (h1 : i < L.length) (hl : lookM (askK (nth L i)) M = none) : KInv L R (i + 1) (M ++ [(askK (nth L i), .agg ⟨nth R i⟩)]) := by
 refine ⟨fun p hp => ?_, fun p hp => ?_, fun j k1 k2 => ?_, fun k v hk => ?_⟩
 ·rcases List.mem_append.1 hp with hp | hp
  ·exact h.key p hp
  ·rw [List.mem_singleton.1 hp]; exact askK_ok (cf_nth hL h0 h1)
 ·rcases List.mem_append.1 hp with hp | hp
  ·exact h.val p hp
  ·rw [List.mem_singleton.1 hp]; exact cf_free0 (cf_nth hR h0 (by omega))
 ·rw [lookM_append]
  rcases Int.lt_or_le j i with h3 | h3
  ·rw [h.has j k1 h3]
  ·have : j = i := by omega
   rw [this, hl]
   have ha : cf T.K37 (askC (nth L i)) = true := cf_part 2 21 (cf_nth hL h0 h1) rfl
   simp only
   rw [if_pos]
   exact (eqCs_iff ha).2 rfl
 ·rw [lookM_append] at hk
  cases hm : lookM k M with
  | some w =>
   rw [hm] at hk
   cases hk
   obtain ⟨j, k1, k2, k3⟩ := h.out k _ hm
   exact ⟨j, k1, by omega, k3⟩
  | none =>
   rw [hm] at hk
   simp only at hk
   split at hk
   ·rename_i he
    cases hk
    exact ⟨i, h0, by omega, he, rfl⟩
   ·cases hk
theorem KInv.done {L R : List (List Value)} {i : Int} {M : List (Value × Value)} (h : KInv L R i M) (hL : cfs T.K43 L) (hR : cfs T.K41 R) (hlen : (R.length : Int) = L.length) (hi : L.length ≤ i) : clashR L R = false := by
 refine clashR_no fun a b ha hab hbn => ?_
 cases hq : eqCs (askC (nth L a)) (askC (nth L b)) with
 | false => exact badR_no1 hq
 | true =>
  refine badR_no2 ?_
  have e1 := h.has a ha (by omega)
  have e2 := h.has b (by omega) (by omega)
  have hca : cf T.K37 (askC (nth L a)) = true := cf_part 2 21 (cf_nth hL ha (by omega)) rfl
  have hk : askK (nth L a) = askK (nth L b) := by unfold askK; rw [(eqCs_iff hca).1 hq]
  rw [hk, e2] at e1
  have e3 : nth R b = nth R a := by
   have := Option.some.inj e1
   injection this with this
   injection this
  rw [e3]
  exact (eqCs_iff (cf_nth hR ha (by omega))).2 rfl
theorem jIn_done {L R : List (List Value)} {w i : Int} {acc : List Int × List Int} {W A : List Int} (h0 : 0 ≤ i) (hi : i < L.length) (h : (W, A) = jIn L R w acc (i + 1)) (hw : w ∈ W) : (W, A) = jIn L R w acc L.length := by
 have key : ∀ n : Nat, (W, A) = jIn L R w acc (i + 1 + n) := by
  intro n
  induction n with
  | zero => simpa using h
  | succ n ih =>
   rw [show i + 1 + ((n + 1 : Nat) : Int) = (i + 1 + n) + 1 by omega]
   exact jIn_skip (by omega) ih (.inr (.inr hw))
 have := key (L.length - (i + 1).toNat)
 rwa [show i + 1 + ((L.length - (i + 1).toNat : Nat) : Int) = L.length by omega] at this
theorem poss_no {L : List (List Value)} (h : L.any oddC = true) : possL L = false := by
 obtain ⟨a, h1, h2⟩ := List.any_eq_true.1 h
 cases hb : possL L with
 | false => rfl
 | true =>
  have := List.all_eq_true.1 hb a h1
  rw [h2] at this; cases this
theorem poss_yes {L : List (List Value)} (h : L.any oddC = false) : possL L = true := by
 rw [List.any_eq_false] at h
 exact List.all_eq_true.2 fun a ha => by have := h a ha; simpa using this
end Go.Proofs.Ytohhcnehcjpekaa
