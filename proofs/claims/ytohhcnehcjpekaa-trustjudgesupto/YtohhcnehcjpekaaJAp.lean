/-
  Plain laws of what Agreed keeps in its maps.
-/
import Derived.Test.YtohhcnehcjpekaaJLf
namespace Go.Proofs.Ytohhcnehcjpekaa
open Go Go.AM
set_option linter.unusedVariables false
theorem eqCs_same {ks : List Lk} {a : List Value} (h : cf ks a = true) : eqCs a a = true := (eqCs_iff h).2 rfl
def saidK (x : List Value) : Value := .agg ⟨askC x ++ resC x⟩
theorem saidK_ok {x : List Value} (h : cf T.K43 x = true) : KeyOk Try.prog 80 T.K80 (saidK x) := by
 refine keyA T.g80 ?_
 have h1 := cf_part (ks := T.K43) 2 21 h rfl
 have h2 := cf_part (ks := T.K43) 23 22 h rfl
 have e : T.K80 = (T.K43.drop 2).take 21 ++ (T.K43.drop 23).take 22 := rfl
 rw [e]
 exact cf_append h1 h2
theorem said_eq {x y : List Value} (hx : cf T.K43 x = true) (hy : cf T.K43 y = true) : saidK x = saidK y ↔ eqCs (askC x) (askC y) = true ∧ eqCs (resC x) (resC y) = true := by
 have l1 := cf_len (cf_part (ks := T.K43) 2 21 hx rfl)
 have l2 := cf_len (cf_part (ks := T.K43) 2 21 hy rfl)
 rw [eqCs_iff (cf_part 2 21 hx rfl), eqCs_iff (cf_part 23 22 hx rfl)]
 unfold saidK
 constructor
 ·intro h
  have h : askC x ++ resC x = askC y ++ resC y := by
   injection h with h
   injection h
  exact List.append_inj h (l1.trans l2.symm)
 ·rintro ⟨h1, h2⟩
  have h1 : askC x = askC y := h1
  have h2 : resC x = resC y := h2
  rw [h1, h2]
def outM (ks : List (List Value × Nat)) : List (Value × Value) := ks.map fun e => (saidK e.1, .map (some e.2))
def inM (ws : List Int) : List (Value × Value) := ws.map fun w => (.int .i64 w, .bool true)
theorem lookM_none {k : Value} : ∀ {M : List (Value × Value)}, lookM k M = none ↔ ∀ p ∈ M, eqCs (kc k) (kc p.1) = false := by
 have key : ∀ (M : List (Value × Value)) (i : Nat), findM k M i = none ↔ ∀ p ∈ M, eqCs (kc k) (kc p.1) = false := by
  intro M
  induction M with
  | nil => intro i; simp [findM]
  | cons p M ih =>
   intro i
   obtain ⟨k', v⟩ := p
   simp only [findM]
   cases hc : eqCs (kc k) (kc k') with
   | true => simp [hc]
   | false =>
    simp only [Bool.false_eq_true, if_false, ih, List.mem_cons, forall_eq_or_imp, hc, true_and]
 intro M
 unfold lookM
 rw [Option.map_eq_none_iff, key]
theorem lookM_some {k v : Value} {M : List (Value × Value)} (h : lookM k M = some v) : ∃ k', (k', v) ∈ M ∧ eqCs (kc k) (kc k') = true := by
 unfold lookM at h
 cases hf : findM k M 0 with
 | none => rw [hf] at h; cases h
 | some q =>
  rw [hf] at h
  obtain ⟨j, v'⟩ := q
  cases h
  obtain ⟨_, k', h1, h2⟩ := findM_lt hf
  exact ⟨k', List.mem_of_getElem? h1, h2⟩
structure KM (L : List (List Value)) (i : Int) (t : Tr AObj) (nx : Nat) (ks : List (List Value × Nat)) : Prop where
 outer : t.get 2 = some (.map (ents 0 (outM ks)) (outM ks).length)
 inner : ∀ e ∈ ks, t.get e.2 = some (.map (ents 0 (inM (gvF e.1 (L.take i.toNat)))) (inM (gvF e.1 (L.take i.toNat))).length)
 lt : ∀ e ∈ ks, 4 ≤ e.2 ∧ e.2 < nx
 cfx : ∀ e ∈ ks, cf T.K43 e.1 = true
 nod : (ks.map (·.2)).Nodup
 has : ∀ j : Int, 0 ≤ j → j < i → ∃ e ∈ ks, saidK e.1 = saidK (nth L j)
 one : ∀ e ∈ ks, ∀ e' ∈ ks, saidK e.1 = saidK e'.1 → e = e'
theorem KM.look {L : List (List Value)} {i : Int} {t : Tr AObj} {nx : Nat} {ks : List (List Value × Nat)} (h : KM L i t nx ks) {x : List Value} (hx : cf T.K43 x = true) : (lookM (saidK x) (outM ks) = none ∧ ∀ e ∈ ks, saidK e.1 ≠ saidK x) ∨ ∃ e ∈ ks, saidK e.1 = saidK x ∧ lookM (saidK x) (outM ks) = some (.map (some e.2)) := by
 cases hl : lookM (saidK x) (outM ks) with
 | none =>
  left
  refine ⟨rfl, fun e he q => ?_⟩
  have := lookM_none.1 hl (saidK e.1, .map (some e.2)) (List.mem_map.2 ⟨e, he, rfl⟩)
  simp only [q] at this
  have hk := (saidK_ok hx).2
  rw [eqCs_same hk] at this
  cases this
 | some v =>
  right
  obtain ⟨k', h1, h2⟩ := lookM_some hl
  obtain ⟨e, he, h3⟩ := List.mem_map.1 h1
  cases h3
  have := key_inj (saidK_ok hx) (saidK_ok (h.cfx e he)) h2
  exact ⟨e, he, this.symm, rfl⟩
theorem gvF_next {x : List Value} {L : List (List Value)} {i : Int} (h0 : 0 ≤ i) (h1 : i < L.length) : gvF x (L.take (i + 1).toNat) = gvStep x (gvF x (L.take i.toNat)) (nth L i) := gv_next h0 h1
theorem gvStep_other {x y : List Value} {acc : List Int} (hx : cf T.K43 x = true) (hy : cf T.K43 y = true) (h : saidK x ≠ saidK y) : gvStep x acc y = acc := by
 unfold gvStep
 rw [if_neg]
 rintro ⟨h1, h2, _⟩
 exact h ((said_eq hy hx).2 ⟨h1, h2⟩).symm
theorem gvStep_same {x y : List Value} {acc : List Int} (hx : cf T.K43 x = true) (hy : cf T.K43 y = true) (h : saidK x = saidK y) : gvStep x acc y = if wkr y ∈ acc then acc else acc ++ [wkr y] := by
 unfold gvStep
 have := (said_eq hy hx).1 h.symm
 split
 ·rename_i hc; rw [if_neg hc.2.2]
 ·rename_i hc
  rw [if_pos]
  exact Classical.byContradiction fun q => hc ⟨this.1, this.2, q⟩
theorem gvF_none {x : List Value} {L : List (List Value)} (hx : cf T.K43 x = true) (hL : cfs T.K43 L) (h : ∀ a ∈ L, saidK a ≠ saidK x) : gvF x L = [] := by
 unfold gvF
 have key : ∀ (L : List (List Value)), cfs T.K43 L → (∀ a ∈ L, saidK a ≠ saidK x) → L.foldl (gvStep x) [] = [] := by
  intro L
  induction L with
  | nil => intro _ _; rfl
  | cons a L ih =>
   intro hL h
   rw [List.foldl_cons, gvStep_other hx (hL a (List.mem_cons_self ..)) (fun e => h a (List.mem_cons_self ..) e.symm)]
   exact ih (fun b hb => hL b (List.mem_cons_of_mem _ hb)) fun b hb => h b (List.mem_cons_of_mem _ hb)
 exact key L hL h
theorem gvF_fresh {L : List (List Value)} {i : Int} {t : Tr AObj} {nx : Nat} {ks : List (List Value × Nat)} (h : KM L i t nx ks) (hL : cfs T.K43 L) {x : List Value} (hx : cf T.K43 x = true) (hi : i ≤ L.length) (hn : ∀ e ∈ ks, saidK e.1 ≠ saidK x) : gvF x (L.take i.toNat) = [] := by
 refine gvF_none hx (fun a ha => hL a (List.mem_of_mem_take ha)) fun a ha q => ?_
 obtain ⟨j, hj, rfl⟩ := List.mem_take_iff_getElem.1 ha
 obtain ⟨e, he, h2⟩ := h.has j (by omega) (by omega)
 rw [nth_eq (by omega)] at h2
 simp only [Int.toNat_natCast] at h2
 exact hn e he (h2.trans q)
theorem KM.start {L : List (List Value)} {t : Tr AObj} {nx : Nat} (h : t.get 2 = some (.map [] 0)) : KM L 0 t nx [] := ⟨h, fun e h => by (cases h), fun e h => by (cases h), fun e h => by (cases h), .nil, fun j h1 h2 => by omega, fun e h => by (cases h)⟩
theorem KM.new {L : List (List Value)} {i : Int} {t t' : Tr AObj} {nx nx' nm : Nat} {ks : List (List Value × Nat)} (h : KM L i t nx ks) (hL : cfs T.K43 L) (h0 : 0 ≤ i) (h1 : i < L.length) (hn : ∀ e ∈ ks, saidK e.1 ≠ saidK (nth L i)) (h4 : 4 ≤ nx) (hm1 : nx ≤ nm) (hm2 : nm < nx')
  (k3 : t'.get 2 = some (.map (ents 0 (outM ks ++ [(saidK (nth L i), Value.map (some nm))])) (outM ks ++ [(saidK (nth L i), Value.map (some nm))]).length)) (kn : t'.get nm = some (.map (ents 0 (inM [wkr (nth L i)])) (inM [wkr (nth L i)]).length)) (kk : ∀ id, 4 ≤ id → id < nx → t'.get id = t.get id) : KM L (i + 1) t' nx' (ks ++ [(nth L i, nm)]) := by
 have hx := cf_nth hL h0 h1
 refine ⟨by rw [k3]; simp only [outM, List.map_append, List.map_cons, List.map_nil], fun e he => ?_, fun e he => ?_, fun e he => ?_, ?_, fun j j0 j1 => ?_, fun e he e' he' hq => ?_⟩
 ·rw [gvF_next h0 h1]
  rcases List.mem_append.1 he with he | he
  ·have := h.lt e he
   rw [kk e.2 this.1 this.2, h.inner e he, gvStep_other (h.cfx e he) hx (hn e he)]
  ·rw [List.mem_singleton.1 he]
   simp only
   rw [kn, gvStep_same hx hx rfl, gvF_fresh h hL hx (by omega) hn]
   rfl
 ·rcases List.mem_append.1 he with he | he
  ·have := h.lt e he; omega
  ·rw [List.mem_singleton.1 he]; simp only; omega
 ·rcases List.mem_append.1 he with he | he
  ·exact h.cfx e he
  ·rw [List.mem_singleton.1 he]; exact hx
 ·rw [List.map_append, List.nodup_append]
  refine ⟨h.nod, by simp, fun a ha b hb => ?_⟩
  obtain ⟨e, he, rfl⟩ := List.mem_map.1 ha
  simp only [List.map_cons, List.map_nil, List.mem_singleton] at hb
  subst hb
  have := h.lt e he
  omega
 ·rcases Int.lt_or_le j i with q | q
  ·obtain ⟨e, he, h2⟩ := h.has j j0 q
   exact ⟨e, List.mem_append_left _ he, h2⟩
  ·have : j = i := by omega
   subst this
   exact ⟨_, List.mem_append_right _ (List.mem_singleton.2 rfl), rfl⟩
 ·rcases List.mem_append.1 he with he | he <;> rcases List.mem_append.1 he' with he' | he'
  ·exact h.one e he e' he' hq
  ·rw [List.mem_singleton.1 he'] at hq
   exact absurd hq (hn e he)
  ·rw [List.mem_singleton.1 he] at hq
   exact absurd hq.symm (hn e' he')
  ·rw [List.mem_singleton.1 he, List.mem_singleton.1 he']
theorem nod_ne {ks : List (List Value × Nat)} (h : (ks.map (·.2)).Nodup) {e e' : List Value × Nat} (he : e ∈ ks) (he' : e' ∈ ks) (hq : e.2 = e'.2) : e = e' := by
 induction ks with
 | nil => cases he
 | cons a ks ih =>
  rw [List.map_cons, List.nodup_cons] at h
  rcases List.mem_cons.1 he with q | k1 <;> rcases List.mem_cons.1 he' with q' | k2
  ·rw [q, q']
  ·rw [q] at hq
   exact absurd (List.mem_map.2 ⟨e', k2, hq.symm⟩) h.1
  ·rw [q'] at hq
   exact absurd (List.mem_map.2 ⟨e, k1, hq⟩) h.1
  ·exact ih h.2 k1 k2
theorem KM.old {L : List (List Value)} {i : Int} {t t' : Tr AObj} {nx nx' : Nat} {ks : List (List Value × Nat)} {e : List Value × Nat} (h : KM L i t nx ks) (hL : cfs T.K43 L) (h0 : 0 ≤ i) (h1 : i < L.length) (he : e ∈ ks) (hs : saidK e.1 = saidK (nth L i)) (hn : nx ≤ nx')
  (k3 : t'.get 2 = t.get 2) (kn : t'.get e.2 = some (.map (ents 0 (inM (if wkr (nth L i) ∈ gvF e.1 (L.take i.toNat) then gvF e.1 (L.take i.toNat) else gvF e.1 (L.take i.toNat) ++ [wkr (nth L i)]))) (inM (if wkr (nth L i) ∈ gvF e.1 (L.take i.toNat) then gvF e.1 (L.take i.toNat) else gvF e.1 (L.take i.toNat) ++ [wkr (nth L i)])).length))
  (kk : ∀ id, 4 ≤ id → id < nx → id ≠ e.2 → t'.get id = t.get id) : KM L (i + 1) t' nx' ks := by
 have hx := cf_nth hL h0 h1
 refine ⟨k3.trans h.outer, fun e' he' => ?_, fun e he => by have := h.lt e he; omega, h.cfx, h.nod, fun j j0 j1 => ?_, h.one⟩
 ·rw [gvF_next h0 h1]
  by_cases q : e' = e
  ·subst q
   rw [kn, gvStep_same (h.cfx e' he) hx hs]
  ·have hne : e'.2 ≠ e.2 := fun z => q (nod_ne h.nod he' he z)
   have := h.lt e' he'
   rw [kk e'.2 this.1 this.2 hne, h.inner e' he', gvStep_other (h.cfx e' he') hx (fun z => q (h.one e' he' e he (z.trans hs.symm)))]
 ·rcases Int.lt_or_le j i with q | q
  ·exact h.has j j0 q
  ·have : j = i := by omega
   subst this
   exact ⟨e, he, hs⟩
theorem tail_last {b : Array Nat} {w : Nat} {l : List Inf} {x : Inf} (hq : ∀ y ∈ l, y.quiet = true) (ho : (List.range l.length).all (fun i => ordered b i l.length) = true) : tailOk b w (l ++ [x]) = true := by
 unfold tailOk tailOk1
 rw [Bool.or_eq_true]
 left
 rw [List.all_eq_true]
 intro j hj
 have hj := List.mem_range.1 hj
 rw [List.length_append, List.length_cons, List.length_nil] at hj
 rw [Bool.or_eq_true]
 by_cases hjl : j < l.length
 ·left
  rw [List.all_eq_true]
  intro y hy
  rw [List.take_append_of_le_length (by omega)] at hy
  exact hq y (List.mem_of_mem_take hy)
 ·right
  have : j = l.length := by omega
  subst this
  rw [List.getElem?_append_right (Nat.le_refl _), Nat.sub_self]
  simp only [List.getElem?_cons_zero, Bool.or_eq_true]
  right
  rw [List.all_eq_true]
  intro i hi
  rw [Bool.or_eq_true]
  right
  exact List.all_eq_true.1 ho i hi
theorem de_quiet {b : Array Nat} {w nx wr : Nat} {l : List Inf} (h : l.all (·.quiet) = true) (h1 : nx ≤ BIG) (h2 : wr ≤ BIG) : (tailOk b w l && decide (nx ≤ BIG) && decide (wr ≤ BIG)) = true := by
 rw [tailOk_quiet h, decide_eq_true h1, decide_eq_true h2]; rfl
theorem de_last {b : Array Nat} {w nx wr : Nat} {l : List Inf} {x : Inf} (h : l.all (·.quiet) = true) (ho : (List.range l.length).all (fun i => ordered b i l.length) = true) (h1 : nx ≤ BIG) (h2 : wr ≤ BIG) : (tailOk b w (l ++ [x]) && decide (nx ≤ BIG) && decide (wr ≤ BIG)) = true := by
 rw [tail_last (List.all_eq_true.1 h) ho, decide_eq_true h1, decide_eq_true h2]; rfl
theorem KM.mono {L : List (List Value)} {i : Int} {t t' : Tr AObj} {nx nx' : Nat} {ks : List (List Value × Nat)} (h : KM L i t nx ks) (h4 : 4 ≤ nx) (hn : nx ≤ nx') (hk : ∀ id, id < nx → t'.get id = t.get id) : KM L i t' nx' ks :=
 ⟨(hk 2 (by omega)).trans h.outer, fun e he => (hk _ (h.lt e he).2).trans (h.inner e he), fun e he => ⟨(h.lt e he).1, Nat.lt_of_lt_of_le (h.lt e he).2 hn⟩, h.cfx, h.nod, h.has, h.one⟩
theorem ask_iff {x y : List Value} (hx : cf T.K43 x = true) : eqCs (askC x) (askC y) = true ↔ askC x = askC y := eqCs_iff (cf_part (ks := T.K43) 2 21 hx rfl)
def OwnR (t : Tr AObj) (r id : Nat) (d : List Value) : Prop := ∃ low n0, (r = id ∧ t.get id = some (.row d id low false d.length)) ∨ (r ≠ id ∧ t.get id = some (.alias r 0 d.length) ∧ t.get r = some (.row d id low false n0))
theorem OwnR.fam {t : Tr AObj} {r id nx wr : Nat} {d : List Value} (h : OwnR t r id d) : ∃ low n0, (⟨t, nx, wr⟩ : AH).fam id = some ⟨r, 0, d.length, d, id, low, false⟩ ∧ t.get r = some (.row d id low false n0) := by
 obtain ⟨low, n0, ⟨rfl, h1⟩ | ⟨h0, h1, h2⟩⟩ := h
 ·exact ⟨low, _, fam_row (h := ⟨t, nx, wr⟩) h1, h1⟩
 ·refine ⟨low, n0, ?_, h2⟩
  unfold AH.fam
  simp only [h1, h2]
theorem ya_ownR {P : Program} {T el : TypeId} {sz by' r id len m nx wr : Nat} {d news : List Value} {t : Tr AObj} (hu : P.underlying T = some (.slice el)) (hi : TyI P el sz by') (h0 : 0 < sz) (hn : news.length = m * sz) (hb : 2 * (len + m) * by' ≤ 281474976710656) (hm : len + m < BIG) (ho : news.all oneC = true) (hm0 : 0 < m)
  (hO : OwnR t r id d) (hd : d.length = len * sz) (hr : r < nx) (hid : id < nx) :
  ∃ t', appendV P ⟨t, nx, wr⟩ T (.slice (some ⟨id, 0, none⟩) len (len + sz)) m news = some (.slice (some ⟨nx, 0, none⟩) (len + m) (len + m + sz), ⟨t', nx + 1, min wr r⟩) ∧ OwnR t' r nx (d ++ news) ∧ ∀ k, k ≠ r → k ≠ nx → t'.get k = t.get k := by
 obtain ⟨i, i1, i2, i3, i4⟩ := hi
 subst i2; subst i3
 obtain ⟨low, n0, hf, hg⟩ := hO.fam (nx := nx) (wr := wr)
 have hl : loadC ⟨t, nx, wr⟩ id 0 (len * i.size) = some d := by
  have := l_fam hf 0 (len * i.size) ⟨Nat.le_refl _, by simp only [Fam.rb, if_true]; omega⟩
  rw [this, List.drop_zero, List.take_of_length_le (Nat.le_of_eq hd)]
 refine ⟨(t.set r (.row (d ++ news) nx low false n0)).set nx (.alias r 0 (len * i.size + news.length)), ?_, ⟨low, n0, .inr ⟨by omega, ?_, ?_⟩⟩, fun k k1 k2 => ?_⟩
 ·unfold appendV
  simp only [hu, i1]
  rw [if_pos ⟨h0, hn, hb, hm, ho, i4⟩, if_neg (by omega)]
  simp only [hl]
  rw [if_neg (by omega)]
  simp only [if_true, hf, hg, Bool.false_eq_true, if_false]
  rw [if_neg (by omega), List.take_of_length_le (by omega), Nat.zero_add]
 ·rw [Tr.get_set, if_pos rfl, List.length_append, hd]
 ·rw [Tr.get_set, if_neg (by omega), Tr.get_set, if_pos rfl]
 ·rw [Tr.get_set, if_neg k2, Tr.get_set, if_neg k1]
theorem OwnR.keep {t t' : Tr AObj} {r id : Nat} {d : List Value} (h : OwnR t r id d) (h1 : t'.get id = t.get id) (h2 : t'.get r = t.get r) : OwnR t' r id d := by
 obtain ⟨low, n0, ⟨rfl, k1⟩ | ⟨k0, k1, k2⟩⟩ := h
 ·exact ⟨low, n0, .inl ⟨rfl, h1.trans k1⟩⟩
 ·exact ⟨low, n0, .inr ⟨k0, h1.trans k1, h2.trans k2⟩⟩
theorem OwnR.gcO {pos : Nat → Option Nat} {t : Tr AObj} {r id nx wr k j : Nat} {d d' : List Value} (h : OwnR t r id d) (hj : Nat.ble k j = true) (hd : gcD pos d = some d') : gcO k pos ⟨t, nx, wr⟩ j id = some (.row d' j BIG false d'.length) := by
 have hj := Nat.le_of_ble_eq_true hj
 have hl := mapD_len hd
 obtain ⟨low, n0, hf, hg⟩ := h.fam (nx := nx) (wr := wr)
 obtain ⟨low', n0', ⟨rfl, h1⟩ | ⟨h0, h1, h2⟩⟩ := h
 ·unfold Go.AM.gcO
  rw [if_neg (by omega)]
  simp only [h1]
  rw [if_neg (by omega), if_pos trivial, hd, hl]
  rfl
 ·unfold Go.AM.gcO
  rw [if_neg (by omega)]
  simp only [h1]
  rw [if_neg (by omega)]
  simp only [hf, if_true, hd, Option.map_some, hl]
theorem OwnR.gcOk {t : Tr AObj} {r id nx wr : Nat} {d d0 : List Value} {l0 n0 : Nat} {b0 : Bool} (h : OwnR t r id d) (g0 : t.get 0 = some (.row d0 0 l0 b0 n0)) (hr : 0 < r) (hi : 0 < id) (hn : id < nx) : gcOk 1 ⟨t, nx, wr⟩ [0, id] = true := by
 obtain ⟨low, m0, hf, hg⟩ := h.fam (nx := nx) (wr := wr)
 have r1 : rootOf ⟨t, nx, wr⟩ id = r := by unfold rootOf; rw [hf]
 have r0 : rootOf ⟨t, nx, wr⟩ 0 = 0 := by unfold rootOf; rw [fam_row (h := ⟨t, nx, wr⟩) g0]
 simp [Go.AM.gcOk, r0, r1, List.range_succ]
 omega
end Go.Proofs.Ytohhcnehcjpekaa
