/-
  Plain definitions: what the functions of CommuteApart compute, on cells.
-/
import Derived.Test.YtlhlkjhjoalhoaaGreatDoorCTy
set_option linter.unusedSimpArgs false
set_option linter.unusedVariables false
namespace Go.Proofs.YtlhlkjhjoalhoaaGreatDoor
open Go Go.AM
def inR (n : Int) : Prop := -9223372036854775808 ≤ n ∧ n ≤ 9223372036854775807
instance (n : Int) : Decidable (inR n) := by unfold inR; infer_instance
def around (n m : Int) : Int := (if n < 0 then -(n + 1) else n) % m
theorem wr1 {i : Int} (h0 : 0 ≤ i) (h1 : i < 4611686018427387904) : IntKind.i64.wrap (i + 1) = i + 1 := IntWalk.i64_in _ (by omega)
theorem take_next {α : Type} {l : List α} {i : Int} (h0 : 0 ≤ i) (h1 : i < l.length) : l.take (i + 1).toNat = l.take i.toNat ++ [l[i.toNat]'(by omega)] := by
 rw [show (i + 1).toNat = i.toNat + 1 by omega, List.take_succ_eq_append_getElem (by omega)]
theorem take_end {α : Type} {l : List α} {i : Int} (h1 : l.length ≤ i) : l.take i.toNat = l := List.take_of_length_le (by omega)
theorem ith_eq {l : List Int} {i : Int} (h0 : 0 ≤ i) (h1 : i < l.length) : ith l i = l[i.toNat]'(by omega) := by
 unfold ith; rw [List.getD_eq_getElem?_getD, List.getElem?_eq_getElem (by omega)]; rfl
theorem around_eq {n m x : Int} (hn : inR n) (hx : n < 0 ∧ x = (IntKind.i64.wrap (0 - IntKind.i64.wrap (n + 1))).tmod m ∨ 0 ≤ n ∧ x = n.tmod m) : x = around n m := by
 unfold inR at hn
 unfold around
 rcases hx with ⟨h, rfl⟩ | ⟨h, rfl⟩
 ·rw [IntWalk.i64_in (n + 1) (by omega), IntWalk.i64_in _ (by omega), if_pos h, Int.tmod_eq_emod_of_nonneg (by omega)]
  congr 1; omega
 ·rw [if_neg (by omega), Int.tmod_eq_emod_of_nonneg h]
theorem take_nextR {L : List (List Value)} {i : Int} (h0 : 0 ≤ i) (h1 : i < L.length) : L.take (i + 1).toNat = L.take i.toNat ++ [nth L i] := by
 rw [take_next h0 h1, nth_eq (by omega)]
theorem all_next {f : List Value → Bool} {L : List (List Value)} {i : Int} (h0 : 0 ≤ i) (h1 : i < L.length) (h : (L.take i.toNat).all f = true) (he : f (nth L i) = true) : (L.take (i + 1).toNat).all f = true := by
 rw [take_nextR h0 h1, List.all_append, h]; simp [he]
theorem all_end {f : List Value → Bool} {L : List (List Value)} {i : Int} (h1 : L.length ≤ i) (h : (L.take i.toNat).all f = true) : L.all f = true := by rw [take_end h1] at h; exact h
theorem all_no {f : List Value → Bool} {L : List (List Value)} {i : Int} (h0 : 0 ≤ i) (h1 : i < L.length) (he : f (nth L i) = false) : L.all f = false := by
 rw [List.all_eq_false]
 exact ⟨_, nth_mem h0 h1, by simp [he]⟩
abbrev kd (c : List Value) : Int := intAt c 0
abbrev ob (c : List Value) : Int := intAt c 1
abbrev chg (c : List Value) : Bool := boolAt c 2
def clk (c : List Value) : Bool := decide (kd c = 4)
def conf (x y : List Value) : Bool := decide (kd x = kd y) && (decide (ob x = ob y) && (chg x || chg y))
def apB (A B : List (List Value)) : Bool := A.all (fun x => !clk x) && (B.all (fun y => !clk y) && A.all (fun x => B.all fun y => !conf x y))
theorem clk_t {c : List Value} (h : intAt c 0 = 4) : (!clk c) = false := by unfold clk; rw [decide_eq_true h]; rfl
theorem clk_f {c : List Value} (h : ¬ intAt c 0 = 4) : (!clk c) = true := by unfold clk; rw [decide_eq_false h]; rfl
theorem ap_clkA {A B : List (List Value)} {i : Int} (h0 : 0 ≤ i) (h1 : i < A.length) (h : intAt (nth A i) 0 = 4) : apB A B = false := by
 unfold apB; rw [all_no h0 h1 (clk_t h)]; rfl
theorem ap_clkB {A B : List (List Value)} {k : Int} (h0 : 0 ≤ k) (h1 : k < B.length) (h : intAt (nth B k) 0 = 4) : apB A B = false := by
 unfold apB; rw [all_no (L := B) h0 h1 (clk_t h)]; simp
theorem ap_conf {A B : List (List Value)} {i k : Int} (h0 : 0 ≤ i) (h1 : i < A.length) (k0 : 0 ≤ k) (k1 : k < B.length) (h : conf (nth A i) (nth B k) = true) : apB A B = false := by
 have h2 : B.all (fun y => !conf (nth A i) y) = false := all_no k0 k1 (by simp only [h, Bool.not_true])
 unfold apB; rw [all_no (f := fun x => B.all fun y => !conf x y) h0 h1 h2]; simp
theorem ap_true {A B : List (List Value)} (h1 : A.all (fun x => !clk x) = true) (h2 : B.all (fun y => !clk y) = true) (h3 : A.all (fun x => B.all fun y => !conf x y) = true) : apB A B = true := by
 unfold apB; rw [h1, h2, h3]; rfl
theorem conf_comm {x y : List Value} : conf x y = conf y x := by
 unfold conf
 rw [show decide (kd x = kd y) = decide (kd y = kd x) by simp only [eq_comm], show decide (ob x = ob y) = decide (ob y = ob x) by simp only [eq_comm], Bool.or_comm]
theorem ap_iff {A B : List (List Value)} : apB A B = true ↔ (∀ x ∈ A, clk x = false) ∧ (∀ y ∈ B, clk y = false) ∧ ∀ x ∈ A, ∀ y ∈ B, conf x y = false := by
 unfold apB
 simp only [Bool.and_eq_true, List.all_eq_true, Bool.not_eq_true']
theorem ap_mem {A B A' B' : List (List Value)} (h : apB A B = true) (ha : ∀ x ∈ A', x ∈ A) (hb : ∀ y ∈ B', y ∈ B) : apB A' B' = true := by
 obtain ⟨h1, h2, h3⟩ := ap_iff.1 h
 exact ap_iff.2 ⟨fun x hx => h1 x (ha x hx), fun y hy => h2 y (hb y hy), fun x hx y hy => h3 x (ha x hx) y (hb y hy)⟩
theorem ap_comm {A B : List (List Value)} : apB A B = apB B A := by
 rw [Bool.eq_iff_iff, ap_iff, ap_iff]
 constructor
 ·rintro ⟨h1, h2, h3⟩; exact ⟨h2, h1, fun x hx y hy => by rw [conf_comm]; exact h3 y hy x hx⟩
 ·rintro ⟨h1, h2, h3⟩; exact ⟨h2, h1, fun x hx y hy => by rw [conf_comm]; exact h3 y hy x hx⟩
theorem ap_back {A B K : List (List Value)} (h : ∀ x, x ∈ K ↔ x ∈ A) : apB B K = apB A B := by
 rw [ap_comm, Bool.eq_iff_iff]
 exact ⟨fun q => ap_mem q (fun x hx => (h x).2 hx) fun _ hy => hy, fun q => ap_mem q (fun x hx => (h x).1 hx) fun _ hy => hy⟩
theorem ap_take {A B : List (List Value)} {n : Nat} (h : apB A B = true) : apB (A.take n) B = true := ap_mem h (fun _ hx => List.mem_of_mem_take hx) fun _ hy => hy
def keyV (c : List Value) : Value := .agg ⟨[.int .i64 (kd c), .int .i64 (ob c)]⟩
theorem keyV_ok (c : List Value) : KeyOk Tryz.prog 36 T.K36 (keyV c) := keyA T.g36 rfl
theorem keyV_eq {x y : List Value} : keyV x = keyV y ↔ kd x = kd y ∧ ob x = ob y := by
 unfold keyV
 constructor
 ·intro h
  injection h with h
  injection h with h
  injection h with h1 h2
  injection h2 with h2 _
  injection h1 with _ h1
  injection h2 with _ h2
  exact ⟨h1, h2⟩
 ·rintro ⟨h1, h2⟩; rw [h1, h2]
def boolM (M : List (Value × Value)) (k : Value) : Bool := match lookM k M with | some (.bool b) => b | _ => false
def mStep (M : List (Value × Value)) (x : List Value) : List (Value × Value) := putM (keyV x) (.bool (boolM M (keyV x) || chg x)) M
def metL (A : List (List Value)) (M : List (Value × Value)) : List (Value × Value) := A.foldl mStep M
def met (A : List (List Value)) : List (Value × Value) := metL A []
theorem met_next {A : List (List Value)} {i : Int} (h0 : 0 ≤ i) (h1 : i < A.length) : met (A.take (i + 1).toNat) = mStep (met (A.take i.toNat)) (nth A i) := by
 unfold met metL
 rw [take_nextR h0 h1, List.foldl_append]; rfl
structure MOk (M : List (Value × Value)) : Prop where
 key : ∀ p ∈ M, KeyOk Tryz.prog 36 T.K36 p.1
 val : ∀ p ∈ M, ∃ b, p.2 = .bool b
theorem MOk.nil : MOk [] := ⟨fun p h => (by cases h), fun p h => (by cases h)⟩
theorem MOk.step {M : List (Value × Value)} (h : MOk M) (x : List Value) : MOk (mStep M x) :=
 ⟨put_keys (keyV_ok x) h.key, put_vals (Q := fun v => ∃ b, v = .bool b) ⟨_, rfl⟩ h.val⟩
theorem MOk.fold : ∀ {A : List (List Value)} {M : List (Value × Value)}, MOk M → MOk (metL A M)
 | [], _, h => h
 | x :: r, _, h => MOk.fold (A := r) (h.step x)
theorem met_ok (A : List (List Value)) : MOk (met A) := MOk.nil.fold
theorem MOk.look {M : List (Value × Value)} (h : MOk M) {k v : Value} (hl : lookM k M = some v) : v = .bool (boolM M k) := by
 have : ∃ k', (k', v) ∈ M := by
  unfold lookM at hl
  cases hf : findM k M 0 with
  | none => rw [hf] at hl; cases hl
  | some p =>
   rw [hf] at hl
   obtain ⟨j, w⟩ := p
   simp only [Option.map_some, Option.some.injEq] at hl
   subst hl
   obtain ⟨_, k', h3, _⟩ := findM_lt hf
   exact ⟨k', List.mem_of_getElem? h3⟩
 obtain ⟨k', hm⟩ := this
 obtain ⟨b, hb⟩ := h.val _ hm
 have hb : v = .bool b := hb
 subst hb
 unfold boolM; rw [hl]
theorem look_step {M : List (Value × Value)} (h : MOk M) (x y : List Value) : (lookM (keyV y) (mStep M x)).isSome = ((lookM (keyV y) M).isSome || decide (kd x = kd y ∧ ob x = ob y)) ∧ boolM (mStep M x) (keyV y) = (boolM M (keyV y) || (decide (kd x = kd y ∧ ob x = ob y) && chg x)) := by
 by_cases hk : keyV x = keyV y
 ·have hq := keyV_eq.1 hk
  have hl : lookM (keyV y) (mStep M x) = some (.bool (boolM M (keyV x) || chg x)) := by
   rw [← hk]; exact look_put_eq (keyV_ok x)
  refine ⟨by rw [hl, decide_eq_true hq]; simp, ?_⟩
  unfold boolM at *
  rw [hl, decide_eq_true hq, hk]
  simp
 ·have hq : ¬ (kd x = kd y ∧ ob x = ob y) := fun q => hk (keyV_eq.2 q)
  have hl : lookM (keyV y) (mStep M x) = lookM (keyV y) M := look_put_ne (keyV_ok x) (keyV_ok y) (fun e => hk e.symm) h.key
  unfold boolM
  rw [hl, decide_eq_false hq]
  simp
theorem look_fold (y : List Value) : ∀ {A : List (List Value)} {M : List (Value × Value)}, MOk M → (lookM (keyV y) (metL A M)).isSome = ((lookM (keyV y) M).isSome || A.any fun x => decide (kd x = kd y ∧ ob x = ob y)) ∧ boolM (metL A M) (keyV y) = (boolM M (keyV y) || A.any fun x => decide (kd x = kd y ∧ ob x = ob y) && chg x)
 | [], M, _ => by simp [metL]
 | x :: r, M, h => by
  have h1 := look_step h x y
  have h2 := look_fold y (A := r) (h.step x)
  have e : metL (x :: r) M = metL r (mStep M x) := rfl
  rw [e, h2.1, h2.2, h1.1, h1.2]
  simp only [List.any_cons, Bool.or_assoc, and_self]
def hitB (A : List (List Value)) (y : List Value) : Bool := (lookM (keyV y) (met A)).isSome && (boolM (met A) (keyV y) || chg y)
theorem hitB_eq {A : List (List Value)} {y : List Value} : hitB A y = A.any fun x => conf x y := by
 obtain ⟨h1, h2⟩ := look_fold y (A := A) MOk.nil
 unfold hitB met
 rw [h1, h2]
 rw [Bool.eq_iff_iff]
 have hn : (lookM (keyV y) ([] : List (Value × Value))).isSome = false := rfl
 have hn2 : boolM [] (keyV y) = false := rfl
 simp only [hn, hn2, Bool.false_or, Bool.and_eq_true, Bool.or_eq_true, List.any_eq_true, decide_eq_true_eq, conf]
 constructor
 ·rintro ⟨⟨x, hx, hk⟩, ⟨z, hz, hkz, hc⟩ | hc⟩
  ·exact ⟨z, hz, hkz.1, hkz.2, .inl hc⟩
  ·exact ⟨x, hx, hk.1, hk.2, .inr hc⟩
 ·rintro ⟨x, hx, h1, h2, h3 | h3⟩
  ·exact ⟨⟨x, hx, h1, h2⟩, .inl ⟨x, hx, ⟨h1, h2⟩, h3⟩⟩
  ·exact ⟨⟨x, hx, h1, h2⟩, .inr h3⟩
theorem ap_hit {A B : List (List Value)} {k : Int} (k0 : 0 ≤ k) (k1 : k < B.length) (h : hitB A (nth B k) = true) : apB A B = false := by
 rw [hitB_eq, List.any_eq_true] at h
 obtain ⟨x, hx, hc⟩ := h
 refine Bool.eq_false_iff.2 fun q => ?_
 rw [(ap_iff.1 q).2.2 x hx _ (nth_mem k0 k1)] at hc
 cases hc
theorem ap_noHit {A B : List (List Value)} (h1 : A.all (fun x => !clk x) = true) (h2 : B.all (fun y => !clk y) = true) (h3 : B.all (fun y => !hitB A y) = true) : apB A B = true := by
 refine ap_true h1 h2 ?_
 rw [List.all_eq_true] at h3 ⊢
 intro x hx
 rw [List.all_eq_true]
 intro y hy
 have := h3 y hy
 rw [hitB_eq, Bool.not_eq_true', List.any_eq_false] at this
 simpa using this x hx
theorem l_boxB {h : AH} {id a : Nat} {cs : List Value} {ks : List Lk} (hw : Whole h id cs) (hc : cf ks cs = true) (h2 : ks[a]? = some .bool) : loadC h id a 1 = some [.bool (boolAt cs a)] := by
 have : a < ks.length := (List.getElem?_eq_some_iff.1 h2).1
 rw [l_box hw hc (by omega), (cell_bool hc h2).1]
section
variable {call : Call'} {e : Tr Value} {o : Oper} {m x : Operand} {r ck nx wr : Nat} {t : Tr AObj} {M : List (Value × Value)} {c : List Value}
theorem y_lookB (hM : MOk M) (ho : o.op = .lookup 33 m x false) (hm : ev e m = some (.map (some r))) (hx : ev e x = some (keyV c)) (hr : t.get r = some (.map (ents 0 M) ck)) :
  doOp Tryz.prog call e ⟨t, nx, wr⟩ o = some (.bool (boolM M (keyV c)), ⟨t, nx, wr⟩) := by
 cases hl : lookM (keyV c) M with
 | none =>
  have h2 := y_lookNo (P := Tryz.prog) (call := call) (nx := nx) (wr := wr) ho hm hx Tryz.underlying33 Tryz.underlying36 (by decide) T.f36 (keyV_ok c) hM.key T.z4 rfl hr hl
  have h3 : boolM M (keyV c) = false := by unfold boolM; rw [hl]
  rw [h2, h3]; rfl
 | some v =>
  have h2 := y_lookYes (P := Tryz.prog) (call := call) (nx := nx) (wr := wr) ho hm hx Tryz.underlying33 Tryz.underlying36 (by decide) T.f36 (keyV_ok c) hM.key T.z4 rfl hr hl
  rw [h2, hM.look hl]; rfl
theorem y_lookB2 (hM : MOk M) (ho : o.op = .lookup 33 m x true) (hm : ev e m = some (.map (some r))) (hx : ev e x = some (keyV c)) (hr : t.get r = some (.map (ents 0 M) ck)) :
  doOp Tryz.prog call e ⟨t, nx, wr⟩ o = some (.tuple ⟨[.bool (boolM M (keyV c)), .bool (lookM (keyV c) M).isSome]⟩, ⟨t, nx, wr⟩) := by
 cases hl : lookM (keyV c) M with
 | none =>
  have h2 := y_lookNo (P := Tryz.prog) (call := call) (nx := nx) (wr := wr) ho hm hx Tryz.underlying33 Tryz.underlying36 (by decide) T.f36 (keyV_ok c) hM.key T.z4 rfl hr hl
  have h3 : boolM M (keyV c) = false := by unfold boolM; rw [hl]
  rw [h2, h3]; rfl
 | some v =>
  have h2 := y_lookYes (P := Tryz.prog) (call := call) (nx := nx) (wr := wr) ho hm hx Tryz.underlying33 Tryz.underlying36 (by decide) T.f36 (keyV_ok c) hM.key T.z4 rfl hr hl
  rw [h2, hM.look hl]; rfl
theorem y_putB (hM : MOk M) {y : Operand} {b : Bool} (hb : b = (boolM M (keyV c) || chg c)) (ho : o.op = .mapUpdate 33 m x y) (hm : ev e m = some (.map (some r))) (hx : ev e x = some (keyV c)) (hy : ev e y = some (.bool b)) (hr : t.get r = some (.map (ents 0 M) M.length)) :
  doOp Tryz.prog call e ⟨t, nx, wr⟩ o = some (undef, ⟨t.set r (.map (ents 0 (mStep M c)) (mStep M c).length), nx, min wr r⟩) := by
 subst hb
 exact y_mapPut ho hm hx hy Tryz.underlying33 Tryz.underlying36 (by decide) T.f36 (keyV_ok c) hM.key hr
end
theorem met_free (A : List (List Value)) : ∀ p ∈ met A, free1 p.2 = true := fun p hp => by
 obtain ⟨b, hb⟩ := (met_ok A).val p hp
 rw [hb]; rfl
end Go.Proofs.YtlhlkjhjoalhoaaGreatDoor
