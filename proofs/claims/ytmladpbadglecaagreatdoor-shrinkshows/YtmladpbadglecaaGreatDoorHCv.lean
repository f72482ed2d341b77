/-
  SortFunc; are two words one.
-/
import Derived.Test.YtmladpbadglecaaGreatDoorHTy
import Derived.Test.YtmladpbadglecaaGreatDoorHWo
set_option linter.unusedSimpArgs false
set_option linter.unusedVariables false
namespace Go.AM
open Go
def CV (t : Tr AObj) (K : Nat -> Prop) (s : Value) (l : List Value) : Prop :=
 (l = [] /\ s = .slice none 0 0) \/ ∃ id off c, s = .slice (some ⟨id, off, none⟩) l.length c /\ CapW l.length c /\ ∀ t' nx' wr', (∀ i, K i -> t'.get i = t.get i) -> loadC ⟨t', nx', wr'⟩ id off l.length = some l
section
variable {t t' : Tr AObj} {K K' : Nat -> Prop} {s : Value} {l : List Value} {nx nx' wr wr' id low n0 : Nat} {ro : Bool}
theorem CV.iv {l : List Int} (h : CV t K s (ints l)) : IV t K s l := by
 rcases h with ⟨h, h1⟩ | ⟨id, off, c, h1, h2, h3⟩
 ·exact .inl ⟨List.map_eq_nil_iff.1 h, h1⟩
 ·rw [ints_len] at h1 h2 h3
  exact .inr ⟨id, off, c, h1, h2, h3⟩
theorem IV.cv {l : List Int} (h : IV t K s l) : CV t K s (ints l) := by
 rcases h with ⟨rfl, h1⟩ | ⟨id, off, c, h1, h2, h3⟩
 ·exact .inl ⟨rfl, h1⟩
 ·rw [<-ints_len l] at h1 h2 h3
  exact .inr ⟨id, off, c, h1, h2, h3⟩
theorem CV.keep (h : CV t K s l) (hk : ∀ i, K i -> t'.get i = t.get i) : CV t' K s l := by
 rcases h with h | ⟨id, off, c, h1, hc, h2⟩
 ·exact .inl h
 ·exact .inr ⟨id, off, c, h1, hc, fun t2 nx2 wr2 hk2 => h2 t2 nx2 wr2 fun i hi => (hk2 i hi).trans (hk i hi)⟩
theorem CV.mono (h : CV t K s l) (hk : ∀ i, K i -> K' i) : CV t K' s l := by
 rcases h with h | ⟨id, off, c, h1, hc, h2⟩
 ·exact .inl h
 ·exact .inr ⟨id, off, c, h1, hc, fun t2 nx2 wr2 hk2 => h2 t2 nx2 wr2 fun i hi => hk2 i (hk i hi)⟩
theorem cv_row {c : Nat} (hK : K id) (hc : CapW l.length c) (hr : t.get id = some (.row l id low ro n0)) (hn : n0 = l.length) : CV t K (.slice (some ⟨id, 0, none⟩) l.length c) l :=
 .inr ⟨id, 0, c, rfl, hc, fun t' nx' wr' hk => l_all (whole_row ((hk id hK).trans hr) hn) rfl⟩
theorem CV.len (h : CV t K s l) : ∃ a c, s = .slice a l.length c := by
 rcases h with ⟨rfl, rfl⟩ | ⟨id, off, c, rfl, _⟩
 ·exact ⟨_, _, rfl⟩
 ·exact ⟨_, _, rfl⟩
theorem CV.uniq {l' : List Value} (h : CV t K s l) (h' : CV t K' s l') : l' = l := by
 rcases h with ⟨rfl, rfl⟩ | ⟨id, off, c, rfl, hc, hl⟩
 ·rcases h' with ⟨rfl, _⟩ | ⟨id', off', c', h1, _⟩
  ·rfl
  ·cases h1
 ·rcases h' with ⟨_, h1⟩ | ⟨id', off', c', h1, hc', hl'⟩
  ·cases h1
  ·simp only [Value.slice.injEq, Option.some.injEq, Addr.mk.injEq] at h1
   obtain ⟨⟨rfl, rfl, _⟩, hn, _⟩ := h1
   have a := hl t 0 0 fun _ _ => rfl
   have b := hl' t 0 0 fun _ _ => rfl
   rw [<-hn, a] at b
   exact (Option.some.inj b).symm
theorem x_lenC {P : Program} {call : Call'} {e : Tr Value} {h : AH} {o : Oper} {c : Call} {T el : TypeId} (hs : CV t K s l) (ho : o.op = .call c) (hc : c.callee = .builtin .len) (ha : evs e c.args.toList = some [s]) (ht : c.argTypes[0]? = some T) (hu : P.underlying T = some (.slice el)) : doOp P call e h o = some (.int .i64 l.length, h) := by
 obtain ⟨a, cp, rfl⟩ := hs.len
 exact x_len ho hc ha ht hu
theorem cells_cv {P : Program} {T el : TypeId} (hs : CV t K s l) (hu : P.underlying T = some (.slice el)) (hz : szOf P el = some 1) : cellsV P ⟨t, nx, wr⟩ T s = some (l.length, l) := by
 rcases hs with ⟨rfl, rfl⟩ | ⟨id, off, c, rfl, hc, hl⟩
 ·unfold cellsV
  simp only [hu, hz]
  rfl
 ·exact cells_row hu hz (by rw [Nat.mul_one]; exact hl _ _ _ fun _ _ => rfl)
theorem CV.elem (hs : CV t K s l) {i : Int} (h0 : 0 <= i) (h1 : i < l.length) : ∃ id off c, s = .slice (some ⟨id, off, none⟩) l.length c /\ ∀ t' nx' wr', (∀ i, K i -> t'.get i = t.get i) -> loadC ⟨t', nx', wr'⟩ id (off + i.toNat * 1) 1 = some [l[i.toNat]!] := by
 rcases hs with ⟨rfl, rfl⟩ | ⟨id, off, c, rfl, hc, hl⟩
 ·simp at h1; omega
 ·refine ⟨id, off, c, rfl, fun t' nx' wr' hk => ?_⟩
  have := loadC_part (m := i.toNat) (k := 1) (hl t' nx' wr' hk) (by omega)
  rw [Nat.mul_one, this, List.drop_eq_getElem_cons (by omega), List.take_succ_cons, List.take_zero, getElem!_pos l i.toNat (by omega)]
theorem x_indexC {P : Program} {call : Call'} {e : Tr Value} {h : AH} {o : Oper} {T el : TypeId} {x i : Operand} {id off len cap sz : Nat} {κ : IntKind} {n : Int} (hv : s = .slice (some ⟨id, off, none⟩) len cap) (ho : o.op = .indexAddr T x i) (hx : ev e x = some s) (hi : ev e i = some (.int κ n)) (hu : P.underlying T = some (.slice el)) (hz : szOf P el = some sz) (h0 : 0 <= n) (h1 : n < len) : doOp P call e h o = some (.pointer (some ⟨id, off + n.toNat * sz, none⟩), h) := by
 subst hv
 exact x_index ho hx hi hu hz h0 h1
theorem x_sliceC {P : Program} {T el : TypeId} {i j : Int} {lo hi : Option Operand} (hs : CV t K s l) (hu : P.underlying T = some (.slice el)) (hz : szOf P el = some 1) (h0 : 0 <= i) (h1 : i <= j) (h2 : j <= l.length) (hlo : lo = none -> i = 0) (hhi : hi = none -> j = l.length) :
  ∃ w, CV t K w ((l.drop i.toNat).take (j.toNat - i.toNat)) /\ ∀ {call : Call'} {e : Tr Value} {o : Oper} {x : Operand} {t' : Tr AObj} {nx wr : Nat}, (∀ i, K i -> t'.get i = t.get i) -> o.op = .slice T x lo hi none -> ev e x = some s -> (∀ a, lo = some a -> ev e a = some (.int .i64 i)) -> (∀ a, hi = some a -> ev e a = some (.int .i64 j)) -> doOp P call e ⟨t', nx, wr⟩ o = some (w, ⟨t', nx, wr⟩) := by
 have hj0 : 0 <= j := by omega
 have ev1 : ∀ {e : Tr Value}, (∀ a, lo = some a -> ev e a = some (.int .i64 i)) -> ∃ u, evO e lo = some u /\ nat? u 0 = some i.toNat := by
  intro e ha
  cases lo with
  | none => exact ⟨none, rfl, by rw [hlo rfl]; rfl⟩
  | some a => exact ⟨some (.int .i64 i), by simp only [evO, ha a rfl, Option.map_some], by simp only [nat?, if_pos h0]⟩
 have ev2 : ∀ {e : Tr Value}, (∀ a, hi = some a -> ev e a = some (.int .i64 j)) -> ∃ u, evO e hi = some u /\ nat? u l.length = some j.toNat := by
  intro e ha
  cases hi with
  | none => exact ⟨none, rfl, by rw [hhi rfl]; simp [nat?]⟩
  | some a => exact ⟨some (.int .i64 j), by simp only [evO, ha a rfl, Option.map_some], by simp only [nat?, if_pos hj0]⟩
 have hlen : ((l.drop i.toNat).take (j.toNat - i.toNat)).length = j.toNat - i.toNat := by rw [List.length_take, List.length_drop]; omega
 have z1 : ∀ {e : Tr Value}, evO e none = some none := rfl
 have z2 : ∀ d, nat? none d = some d := fun _ => rfl
 rcases hs with ⟨rfl, rfl⟩ | ⟨id, off, c, rfl, hc, hl⟩
 ·have hj : j = 0 := by simp at h2; omega
  have hi' : i = 0 := by omega
  subst hj; subst hi'
  refine ⟨.slice none 0 0, .inl ⟨by simp, rfl⟩, fun {call e o x t' nx wr} hk ho hx ha hb => ?_⟩
  obtain ⟨u1, a1, a2⟩ := ev1 ha
  obtain ⟨u2, b1, b2⟩ := ev2 hb
  rw [do_op (by rw [ho]; simp), ho]
  have b2 : nat? u2 0 = some 0 := b2
  have a2 : nat? u1 0 = some 0 := a2
  simp only [aop, hx, a1, b1, z1, z2, sliceV, hu, hz, sliceG, a2, b2]
  simp
 ·have hp : ∀ t' nx' wr', (∀ i, K i -> t'.get i = t.get i) -> loadC ⟨t', nx', wr'⟩ id (off + i.toNat * 1) (j.toNat - i.toNat) = some ((l.drop i.toNat).take (j.toNat - i.toNat)) := fun t' nx' wr' hk => by
   rw [Nat.mul_one, loadC_part (m := i.toNat) (k := j.toNat - i.toNat) (hl t' nx' wr' hk) (by omega)]
  rcases hc with rfl | ⟨q, rfl⟩
  ·by_cases hjl : j = l.length
   ·-- up to the end: the capacity is the length
    by_cases hil : l.length = i.toNat
    ·refine ⟨.slice (some ⟨id, off, none⟩) (j.toNat - i.toNat) (j.toNat - i.toNat), .inr ⟨id, off, _, by rw [hlen], .inl hlen.symm, fun t' nx' wr' hk => ?_⟩, fun {call e o x t' nx wr} hk ho hx ha hb => ?_⟩
     ·have e0 : j.toNat - i.toNat = 0 := by omega
      rw [hlen, e0, List.take_zero]
      have := loadC_part (m := 0) (k := 0) (hl t' nx' wr' hk) (by omega)
      rw [Nat.add_zero, List.take_zero] at this
      exact this
     ·obtain ⟨u1, a1, a2⟩ := ev1 ha
      obtain ⟨u2, b1, b2⟩ := ev2 hb
      rw [do_op (by rw [ho]; simp), ho]
      simp only [aop, hx, a1, b1, z1, z2, sliceV, hu, hz, sliceG, a2, b2, Option.isNone_some, Bool.false_eq_true, false_and, if_false, Option.isNone_none, true_and]
      rw [if_neg (by omega), if_pos ⟨by omega, by omega, by omega, by decide, by simp, by decide, .inr trivial⟩]
      rw [if_pos (by omega), if_pos hil]
      rfl
    ·refine ⟨.slice (some ⟨id, off + i.toNat * 1, none⟩) (j.toNat - i.toNat) (j.toNat - i.toNat), .inr ⟨id, off + i.toNat * 1, _, by rw [hlen], .inl hlen.symm, fun t' nx' wr' hk => by rw [hlen]; exact hp t' nx' wr' hk⟩, fun {call e o x t' nx wr} hk ho hx ha hb => ?_⟩
     obtain ⟨u1, a1, a2⟩ := ev1 ha
     obtain ⟨u2, b1, b2⟩ := ev2 hb
     rw [do_op (by rw [ho]; simp), ho]
     simp only [aop, hx, a1, b1, z1, z2, sliceV, hu, hz, sliceG, a2, b2, Option.isNone_some, Bool.false_eq_true, false_and, if_false, Option.isNone_none, true_and]
     rw [if_neg (by omega), if_pos ⟨by omega, by omega, by omega, by decide, by simp, by decide, .inr trivial⟩]
     rw [if_pos (by omega), if_neg hil]
     rfl
   ·refine ⟨.slice (some ⟨id, off + i.toNat * 1, none⟩) (j.toNat - i.toNat) (j.toNat - i.toNat + 1 + 4294967296 * (l.length - j.toNat)), .inr ⟨id, off + i.toNat * 1, _, by rw [hlen], .inr ⟨_, by rw [hlen]⟩, fun t' nx' wr' hk => by rw [hlen]; exact hp t' nx' wr' hk⟩, fun {call e o x t' nx wr} hk ho hx ha hb => ?_⟩
    obtain ⟨u1, a1, a2⟩ := ev1 ha
    obtain ⟨u2, b1, b2⟩ := ev2 hb
    rw [do_op (by rw [ho]; simp), ho]
    simp only [aop, hx, a1, b1, z1, z2, sliceV, hu, hz, sliceG, a2, b2, Option.isNone_some, Bool.false_eq_true, false_and, if_false, Option.isNone_none, true_and]
    rw [if_neg (by omega), if_pos ⟨by omega, by omega, by omega, by decide, by simp, by decide, .inr trivial⟩]
    rw [if_neg (by omega), Nat.mul_one, hl t' nx wr hk]
    rfl
  ·refine ⟨.slice (some ⟨id, off + i.toNat * 1, none⟩) (j.toNat - i.toNat) (j.toNat - i.toNat + 1 + 4294967296 * (l.length + q - j.toNat)), .inr ⟨id, off + i.toNat * 1, _, by rw [hlen], .inr ⟨_, by rw [hlen]⟩, fun t' nx' wr' hk => by rw [hlen]; exact hp t' nx' wr' hk⟩, fun {call e o x t' nx wr} hk ho hx ha hb => ?_⟩
   obtain ⟨u1, a1, a2⟩ := ev1 ha
   obtain ⟨u2, b1, b2⟩ := ev2 hb
   have hsp : spareOk 1 l.length (l.length + 1 + 4294967296 * q) := spareOk_mk (by decide) (by decide)
   rw [do_op (by rw [ho]; simp), ho]
   simp only [aop, hx, a1, b1, z1, z2, sliceV, hu, hz, sliceG, a2, b2, Option.isNone_some, Bool.false_eq_true, false_and, if_false, Option.isNone_none, true_and]
   rw [if_pos (by omega), spareK_eq, if_pos ⟨hsp, by omega, by omega⟩]
   rfl
def AccC (t : Tr AObj) (n0 nx : Nat) (S : Nat -> Prop) (v : Value) (d : List Value) : Prop :=
 AccP t n0 nx S 1 v d.length d \/ (d = [] /\ (∀ x, S x -> n0 <= x /\ x < nx) /\ ∃ id, v = .slice (some ⟨id, 0, none⟩) 0 0 /\ t.get id = some (.row [] id BIG false 0) /\ S id)
theorem AccC.bnd {n0 : Nat} {S : Nat -> Prop} {v : Value} {d : List Value} (h : AccC t n0 nx S v d) : ∀ x, S x -> n0 <= x /\ x < nx := by
 rcases h with h | h
 ·exact h.bnd
 ·exact h.2.1
theorem AccC.keep {n0 : Nat} {S : Nat -> Prop} {v : Value} {d : List Value} (h : AccC t n0 nx S v d) (hn : nx <= nx') (hk : ∀ x, S x -> t'.get x = t.get x) : AccC t' n0 nx' S v d := by
 rcases h with h | ⟨a, b, id, c, e, f⟩
 ·exact .inl (h.keep hn hk)
 ·exact .inr ⟨a, fun x hx => by have := b x hx; omega, id, c, (hk id f).trans e, f⟩
theorem AccC.cv {n0 : Nat} {S : Nat -> Prop} {v : Value} {d : List Value} (h : AccC t n0 nx S v d) : CV t S v d := by
 rcases h with h | ⟨rfl, b, id, rfl, e, f⟩
 ·rcases h.acc with ⟨h1, _, rfl⟩ | ⟨h0, hd, id, r, rfl, h2, h3, h4⟩
  ·exact .inl ⟨List.eq_nil_of_length_eq_zero h1, rfl⟩
  ·exact .inr ⟨id, 0, _, rfl, .inr ⟨0, rfl⟩, fun t' nx' wr' hk => l_all ((h2.keep (hk _ h4) (hk _ h3)).whole) rfl⟩
 ·exact cv_row f (.inl rfl) e rfl
theorem AccC.start {n0 : Nat} : AccC t n0 nx (fun _ => False) (.slice none 0 0) [] := .inl .start
structure ABc (t : Tr AObj) (nx wr n0 : Nat) (S : Nat -> Prop) (L M : List Value) (v' : Value) (t' : Tr AObj) (nx' wr' : Nat) (S' : Nat -> Prop) : Prop where
 le : nx <= nx'
 hi : nx' <= nx + 1
 wlo : min wr n0 <= wr'
 whi : wr' <= wr
 acc : AccC t' n0 nx' S' v' (L ++ M)
 sub : ∀ x, S' x -> S x \/ x = nx
 same : ∀ id, ¬ S id -> id < nx -> t'.get id = t.get id
theorem app_C {P : Program} {T el : TypeId} {by' : Nat} {t0 t : Tr AObj} {n0 nx0 nx wr : Nat} {S : Nat -> Prop} {w : Value} {L M : List Value} (hA0 : AccC t0 n0 nx0 S w L) (hnx : nx0 <= nx) (hk : ∀ x, S x -> t.get x = t0.get x) (hn0 : n0 <= nx) (hu : P.underlying T = some (.slice el)) (hi : TyI P el 1 by') (hby : by' <= 24) (ho : M.all oneC = true) (hb : L.length + M.length <= 1000000) :
  ∃ v' t' nx' wr' S', appendV P ⟨t, nx, wr⟩ T w M.length M = some (v', ⟨t', nx', wr'⟩) /\ ABc t nx wr n0 S L M v' t' nx' wr' S' := by
 have hA := hA0.keep hnx hk
 have hBIG : (1000000 : Nat) < BIG := by unfold BIG; omega
 have hmul : ∀ n, n <= 1000000 -> 2 * n * by' <= 281474976710656 := fun n hn => Nat.le_trans (Nat.mul_le_mul (Nat.mul_le_mul_left 2 hn) hby) (by decide)
 by_cases hM : M = []
 ·subst hM
  rw [List.length_nil, Nat.add_zero] at hb
  have hw : ∃ a cp, w = .slice a L.length cp := hA.cv.len
  obtain ⟨a, cp, rfl⟩ := hw
  exact ⟨_, t, nx, wr, S, ya_zero hu hi (hmul _ hb) (by omega), Nat.le_refl _, by omega, Nat.min_le_left _ _, Nat.le_refl _, by rw [List.append_nil]; exact hA, fun x h => .inl h, fun _ _ _ => rfl⟩
 have hMl : 0 < M.length := List.length_pos_iff.2 hM
 have hlA : (L ++ M).length = L.length + M.length := List.length_append
 have hbnd : ∀ x, (S x \/ x = nx) -> n0 <= x /\ x < nx + 1 := fun x hx => by
  rcases hx with hx | rfl
  ·have := hA.bnd x hx; omega
  ·omega
 rcases hA with hA | ⟨rfl, b, id, rfl, e, f⟩
 ·rcases hA.acc with ⟨h1, _, rfl⟩ | ⟨h1, hd, id, r, rfl, h2, h3, h4⟩
  ·obtain rfl : L = [] := List.eq_nil_of_length_eq_zero h1
   refine ⟨_, t.set nx (.row M nx BIG false M.length), nx + 1, wr, fun x => S x \/ x = nx, ya_nil hu hi (by decide) (by omega) (hmul _ (by rw [List.length_nil] at hb; omega)) (by rw [List.length_nil] at hb; omega) ho hMl, by omega, by omega, Nat.min_le_left _ _, Nat.le_refl _, .inl ⟨.inr ⟨by rw [hlA]; omega, by rw [Nat.mul_one], nx, nx, by rw [List.nil_append], ⟨BIG, 0, rfl, .inl ⟨rfl, by rw [Tr.get_set, if_pos rfl]; rfl⟩⟩, .inr rfl, .inr rfl⟩, hbnd⟩, fun x h => h, fun id _ hid => by rw [Tr.get_set, if_neg (by omega)]⟩
  ·have b3 := hA.bnd r h3
   have b4 := hA.bnd id h4
   obtain ⟨t', k1, k2, k3, k4⟩ := ya_ownR (wr := wr) hu hi (by decide) (by omega : M.length = M.length * 1) (hmul _ hb) (by omega) ho (by decide) hMl h2 hd b3.2 b4.2
   exact ⟨_, t', nx + 1, min wr r, fun x => S x \/ x = nx, k1, by omega, by omega, by omega, Nat.min_le_left _ _, .inl ⟨.inr ⟨by rw [hlA]; omega, by rw [Nat.mul_one], nx, r, by rw [hlA], k2, .inl h3, .inr rfl⟩, hbnd⟩, fun x h => h, fun id hs hid => k3 id (fun q => hs (q ▸ h3)) (by omega)⟩
 ·refine ⟨_, t.set nx (.row M nx BIG false M.length), nx + 1, wr, fun x => S x \/ x = nx, ya_app0 hu hi (by decide) (by omega) (hmul _ (by rw [List.length_nil] at hb; omega)) (by rw [List.length_nil] at hb; omega) ho hMl (l_all (whole_row e rfl) rfl), by omega, by omega, Nat.min_le_left _ _, Nat.le_refl _, .inl ⟨.inr ⟨by rw [hlA]; omega, by rw [Nat.mul_one], nx, nx, by rw [List.nil_append], ⟨BIG, 0, rfl, .inl ⟨rfl, by rw [Tr.get_set, if_pos rfl]; rfl⟩⟩, .inr rfl, .inr rfl⟩, hbnd⟩, fun x h => h, fun id _ hid => by rw [Tr.get_set, if_neg (by omega)]⟩
end
section
variable {P : Program} {call : Call'} {ops : Array Oper} {o : Oper} {rest : List Oper} {e : Tr Value} {sz dst : Nat} {K : St -> Prop} {KD : St -> List Inf -> Prop} {acc : List Inf} {c : Call} {t t0 : Tr AObj} {nx wr n0 nx0 by' : Nat} {T u el : TypeId} {S KM : Nat -> Prop} {v w : Value} {L M : List Value}
theorem o_appC (hA0 : AccC t0 n0 nx0 S w L) (hcell : cellsV P ⟨t, nx, wr⟩ T v = some (M.length, M)) (hw : wantedA ops e o = some true) (hdd : o.dst = some dst) (ho : o.op = .call c) (hc : c.callee = .builtin .append) (ha : evs e c.args.toList = some [w, v]) (ht : c.argTypes[0]? = some T) (ht1 : c.argTypes[1]? = some u) (hiu : isIntT P u = false)
  (hu : P.underlying T = some (.slice el)) (hi : TyI P el 1 by') (hlt : dst < sz) (hby : by' <= 24) (hone : M.all oneC = true) (hnx : nx0 <= nx) (hk : ∀ x, S x -> t.get x = t0.get x) (hn0 : n0 <= nx) (hb : L.length + M.length <= 1000000)
  (kk : ∀ v' t' nx' wr' S', ABc t nx wr n0 S L M v' t' nx' wr' S' -> OpsK P call ops rest ⟨e.set dst v', sz, ⟨t', nx', wr'⟩⟩ K) : OpsK P call ops (o :: rest) ⟨e, sz, ⟨t, nx, wr⟩⟩ K := by
 obtain ⟨v', t', nx', wr', S', h1, h2⟩ := app_C (wr := wr) hA0 hnx hk hn0 hu hi hby hone hb
 exact o_step hw hdd (x_append ho hc ha ht ht1 hiu hcell h1) hlt (kk _ _ _ _ _ h2)
theorem d_appC (hA0 : AccC t0 n0 nx0 S w L) (hcell : cellsV P ⟨t, nx, BIG⟩ T v = some (M.length, M)) (hw : wantedA ops e o = some true) (hdd : o.dst = some dst) (ho : o.op = .call c) (hc : c.callee = .builtin .append) (ha : evs e c.args.toList = some [w, v]) (ht : c.argTypes[0]? = some T) (ht1 : c.argTypes[1]? = some u) (hiu : isIntT P u = false)
  (hu : P.underlying T = some (.slice el)) (hi : TyI P el 1 by') (hlt : dst < sz) (hby : by' <= 24) (hone : M.all oneC = true) (hnx : nx0 <= nx) (hk : ∀ x, S x -> t.get x = t0.get x) (hn0 : n0 <= nx) (hb : L.length + M.length <= 1000000)
  (kk : ∀ v' t' nx' wr' S', ABc t nx BIG n0 S L M v' t' nx' wr' S' -> DrawK P call ops rest ⟨e.set dst v', sz, ⟨t', nx', min wr wr'⟩⟩ (acc ++ [infOf e t nx o.op t' nx' wr']) KD) : DrawK P call ops (o :: rest) ⟨e, sz, ⟨t, nx, wr⟩⟩ acc KD := by
 obtain ⟨v', t', nx', wr', S', h1, h2⟩ := app_C (wr := BIG) hA0 hnx hk hn0 hu hi hby hone hb
 exact d_step hw hdd (x_append ho hc ha ht ht1 hiu hcell h1) hlt (kk _ _ _ _ _ h2)
end
end Go.AM
namespace Go.Proofs.YtmladpbadglecaaGreatDoor
open Go.AM
set_option maxRecDepth 100000
set_option maxHeartbeats 1000000
open Go.Sort
set_option maxHeartbeats 16000000
def eNil : Ent := ⟨[.slice none 0 0, CMPV], [], .tuple ⟨[]⟩, []⟩
noncomputable def callNil : Call' := callK Tryz.prog [34, 48, 35, 57] (tabOf []) 300
theorem csNil : CallSound Tryz.prog callNil := callK_sound Fits pkS (tab_sound tab_end) 300
theorem okNil : EntOk Tryz.prog 17 eNil := runE_ok Fits pkS csNil (n := 400) zr zr zr
theorem ent_nil {H : AH} : entC [eNil] [.slice none 0 0, CMPV] H = some (.tuple ⟨[]⟩, H) := by
 show entGo H [.slice none 0 0, CMPV] 0 [] [eNil] = _
 unfold entGo
 rw [if_pos (by rfl)]
 rfl
def R_sort : List Value -> AH -> Value -> AH -> Prop := fun args h v h' => (args = [.slice none 0 0, CMPV] -> h' = h) /\ ∀ K r id c (P : Array Wd), args = [.slice (some ⟨id, 0, none⟩) P.size c, CMPV] -> DS h.t K r id P -> ∃ t' nx' wr' P', h' = ⟨t', nx', wr'⟩ /\ OwnS t' r id (vals P') /\ PermIn 0 P.size P P' /\ SortedIn ltW 0 P.size P' /\ FrX h.t h.next h.wr t' nx' wr' r (800000 * P.size + 400000)
noncomputable def c_sort := cEx Tryz.prog 17 R_sort
theorem con_sort : Con Tryz.prog 17 c_sort := con_ex Tryz.func17 rfl
theorem sort_nil {H : AH} : ∃ v h', c_sort [.slice none 0 0, CMPV] H = some (v, h') /\ h' = H := by
 have hm := (con_ents Tryz.func17 rfl (ents_cons okNil ents_nil)).2 [.slice none 0 0, CMPV] H _ _ ent_nil
 obtain ⟨v, h', q, x, _⟩ := cEx_hit (R := R_sort) ⟨_, _, hm, fun _ => rfl, fun K r id c P hs => by cases hs⟩
 exact ⟨v, h', q, x rfl⟩
theorem sort_c {t : Tr AObj} {K : Nat -> Prop} {r id c nx wr : Nat} {P : Array Wd} (hd : DS t K r id P) (hK : ∀ i, K i -> i < nx /\ i ≠ r) (hr : r < nx) (hid : id < nx) (hz : P.size <= 40) (hN : nx + 800000 * P.size + 8000000 <= BIG) (hwr : wr <= BIG) : ∃ v h', c_sort [.slice (some ⟨id, 0, none⟩) P.size c, CMPV] ⟨t, nx, wr⟩ = some (v, h') /\ ∃ t' nx' wr' P', h' = ⟨t', nx', wr'⟩ /\ OwnS t' r id (vals P') /\ PermIn 0 P.size P P' /\ SortedIn ltW 0 P.size P' /\ FrX t nx wr t' nx' wr' r (800000 * P.size + 400000) := by
 have hP := Fits
 have hC : CallSound Tryz.prog (tabOf [(35, c_len), (34, c_pdq)]) := tab_sound (tab_cons con_len (tab_cons con_pdq tab_end))
 suffices key : SureK Tryz.prog ⟨t, nx, wr⟩ _ [] _ (EndR Tryz.prog _ (R_sort [.slice (some ⟨id, 0, none⟩) P.size c, CMPV] ⟨t, nx, wr⟩)) by
  obtain ⟨v, h', q, x⟩ := sure_start (R := R_sort) (sz := 14) Tryz.func17 rfl rfl zo key
  exact ⟨v, h', q, x.2 K r id c P rfl hd⟩
 refine s_seq (s_region hP hC (oM ?_))
 refine os (x_len rfl rfl zv rfl u38) ?_
 refine oA ?_
 refine o_done (se_seq (s_region hP hC (oM ?_)))
 refine oM ?_
 refine oM ?_
 refine os ((x_convI rfl zt Tryz.underlying3 Tryz.underlying72).trans (by rw [IntWalk.u64_in _ ow])) ?_
 refine o_callR (tab_hitR (len_c (n := (P.size : Int)) ow ow)) (wA_none rfl) rfl rfl rfl zv zd (fun v1 h1 hR1 => ?_)
 obtain ⟨rfl, l, rfl, l0, l1⟩ := hR1
 refine oM ?_
 refine o_callR (tab_missR zd (tab_hitR (pdq_all (P.size + 1) (a := 0) (b := (P.size : Int)) (l := l) hd rfl hK hr hid hz ow ow ow (.inl rfl) l0 ow ow ow hwr))) (wA_none rfl) rfl rfl rfl zv zd (fun v2 h2 hR2 => ?_)
 obtain ⟨t2, n2, w2, P2, rfl, o2, hP2, hS2, f2⟩ := hR2
 refine o_done ?_
 refine ⟨.inl rfl, _, (by simp only [Tryz.results17, resA, Tr.get_set, reduceIte, Nat.reduceEqDiff, Nat.reduceAdd] <;> rfl), And.intro (fun h => by cases h) (fun K2 r2 id2 c2 Q2 hs2 hd2 => ?_)⟩
 simp only [List.cons.injEq, Value.slice.injEq, Option.some.injEq, Addr.mk.injEq, and_true, true_and] at hs2
 obtain ⟨rfl, hsz, rfl⟩ := hs2
 obtain ⟨rfl, rfl⟩ := hd.uniq hd2
 rw [Int.toNat_natCast] at hP2 hS2
 exact ⟨_, _, _, _, rfl, o2, hP2, hS2, f2.low ow⟩
theorem st_wr {e : Tr Value} {sz nx w wr : Nat} {t : Tr AObj} (h : w = wr) : (⟨e, sz, ⟨t, nx, w⟩⟩ : St) = ⟨e, sz, ⟨t, nx, wr⟩⟩ := by rw [h]
theorem ah_wr {nx w wr : Nat} {t : Tr AObj} (h : w = wr) : (⟨t, nx, w⟩ : AH) = ⟨t, nx, wr⟩ := by rw [h]
theorem ith_eq {l : List Int} {i : Int} (h0 : 0 <= i) (h1 : i < l.length) : ith l i = l[i.toNat]'ow := by
 unfold ith
 rw [List.getD_eq_getElem?_getD, List.getElem?_eq_getElem ow]
 rfl
theorem nd_f {p : Prop} [Decidable p] (h : (!decide p) = false) : p := by simpa using h
theorem nd_t {p : Prop} [Decidable p] (h : (!decide p) = true) : ¬ p := by simpa using h
theorem eq_step {a b : List Int} {i : Int} (h : a.take i.toNat = b.take i.toNat) (h0 : 0 <= i) (h1 : i < a.length) (h2 : i < b.length) (he : ith a i = ith b i) : a.take (i + 1).toNat = b.take (i + 1).toNat := by
 rw [show (i + 1).toNat = i.toNat + 1 by omega, List.take_succ_eq_append_getElem ow, List.take_succ_eq_append_getElem ow, h, <-ith_eq h0 h1, <-ith_eq h0 h2, he]
theorem eq_no {a b : List Int} {i : Int} (he : ith a i ≠ ith b i) : decide (a = b) = false := decide_eq_false fun h => he (by rw [h])
def R_eq : List Value -> AH -> Value -> AH -> Prop := fun args h v h' => ∀ K s a r b, args = [s, r] -> IV h.t K s a -> IV h.t K r b -> h' = ⟨h.t, h.next, h.wr⟩ /\ v = .bool (decide (a = b))
noncomputable def c_eq := cEx Tryz.prog 20 R_eq
theorem con_eq : Con Tryz.prog 20 c_eq := con_ex Tryz.func20 rfl
theorem eq_c {t : Tr AObj} {nx wr : Nat} {K : Nat -> Prop} {s r : Value} {a b : List Int} (hs : IV t K s a) (hr : IV t K r b) (hl : a.length <= 1000000) (hm : b.length <= 1000000) (hN : nx <= BIG) (hwr : wr <= BIG) : ∃ v h', c_eq [s, r] ⟨t, nx, wr⟩ = some (v, h') /\ h' = ⟨t, nx, wr⟩ /\ v = .bool (decide (a = b)) := by
 have hP := Fits
 have hC : CallSound Tryz.prog (tabOf []) := tab_sound tab_end
 have hF0 : Fr t nx wr t nx wr 0 := Fr.refl
 suffices key : SureK Tryz.prog ⟨t, nx, wr⟩ _ [] _ (EndR Tryz.prog _ (R_eq [s, r] ⟨t, nx, wr⟩)) by
  obtain ⟨v, h', q, c⟩ := sure_start (R := R_eq) (sz := 26) Tryz.func20 rfl rfl zo key
  exact ⟨v, h', q, c K s a r b rfl hs hr⟩
 refine s_seq (s_region hP hC (oA ?_))
 refine o_done (se_seq (s_seq (s_seq (s_region hP hC (oM ?_)))))
 refine os (x_lenI hs rfl rfl zv rfl u22) ?_
 refine oM ?_
 refine os (x_lenI hr rfl rfl zv rfl u22) ?_
 refine os (x_bin rfl zt zt b_neq) ?_
 refine o_done (se_seq ?_)
 refine s_cond zt (fun g2 => ?_) (fun g2 => ?_)
 ·have p2 := g2; try simp only [dd] at p2
  refine s_seq (s_region hP hC (oA ?_))
  refine o_done (se_seq ?_)
  refine s_ret ?_
  refine se_seq_ret ?_
  refine ⟨.inr rfl, _, (by simp only [Tryz.results20, resA, Tr.get_set, reduceIte, Nat.reduceEqDiff, Nat.reduceAdd] <;> rfl), fun K2 s2 a2 r2 b2 hs2 ha2 hb2 => ⟨ah_wr (by first | omega | (dsimp only; omega) | rfl), ?_⟩⟩
  cases hs2
  rw [hs.uniq ha2, hr.uniq hb2]
  rw [decide_eq_false fun h => nd_t g2 (by rw [h])]
  rfl
 ·have p2 := g2; try simp only [dd] at p2
  refine s_skip (se_seq (s_seq (s_seq (s_region hP hC (oM ?_)))))
  refine os (x_lenI hs rfl rfl zv rfl u22) ?_
  refine os (x_move rfl (by rfl)) ?_
  refine o_done (se_seq (s_block ?_))
  refine s_loop (α := Int) (fun i s' => ∃ e, s' = ⟨e, 26, ⟨t, nx, wr⟩⟩ /\ e.get 0 = some (s) /\ e.get 1 = some (r) /\ e.get 12 = some (.int .i64 a.length) /\ e.get 13 = some (.int .i64 i) /\ 0 <= i /\ i <= a.length /\ (a.length : Int) = b.length /\ a.take i.toNat = b.take i.toNat) (fun i => (a.length - i).toNat) 0 ⟨_, rfl, zh, zh, zh, zh, by omega, by omega, nd_f g2, by rw [Int.toNat_zero, List.take_zero, List.take_zero]⟩ ?_
  rintro i s' ⟨e, rfl, he0z0, he0z1, he0z12, he0z13, i0, i1, i2, ho⟩
  refine s_seq (s_region hP hC ?_)
  refine os (x_bin rfl za za b_lss) ?_
  refine o_done (se_seq (s_seq ?_))
  refine s_cond za (fun g4 => ?_) (fun g4 => ?_)
  ·have p4 := g4; try simp only [dd] at p4
   refine s_skip (se_seq (s_seq (s_block (s_seq (s_region hP hC (oM ?_))))))
   refine oA ?_
   refine o_done (se_seq (s_seq ?_))
   have hqB : nx <= BIG := by omega
   refine s_draw hP hC zr ?_
   refine dM ?_
   refine dM ?_
   obtain ⟨id1, of1, c1, hv1, hl1⟩ := hs.elem (i := i) ow ow
   refine ds (x_indexE hv1 rfl za za u22 T.s3 ow ow) ?_
   refine ds (x_load1 rfl za T.g3 (hl1 _ _ _ (fun _ _ => rfl))) ?_
   refine dM ?_
   refine dM ?_
   obtain ⟨id2, of2, c2, hv2, hl2⟩ := hr.elem (i := i) ow ow
   refine ds (x_indexE hv2 rfl za za u22 T.s3 ow ow) ?_
   refine ds (x_load1 rfl za T.g3 (hl2 _ _ _ (fun _ _ => rfl))) ?_
   refine ds (x_bin rfl za za b_neq) ?_
   refine d_done ⟨de_quiet (by simp only [List.all_append, List.all_cons, List.all_nil, infOf, decide_eq_true hqB, Bool.and_self]) zBG zBG, ?_⟩
   refine se_seq ?_
   refine s_cond za (fun g6 => ?_) (fun g6 => ?_)
   ·have p6 := g6; try simp only [dd] at p6
    refine s_seq (s_region hP hC (oA ?_))
    refine o_done (se_seq ?_)
    refine s_ret ?_
    refine se_block_ret ?_
    refine se_seq_ret ?_
    refine se_loop_ret ?_
    refine se_block_ret ?_
    refine se_seq_ret ?_
    refine ⟨.inr rfl, _, (by simp only [Tryz.results20, resA, Tr.get_set, reduceIte, Nat.reduceEqDiff, Nat.reduceAdd] <;> rfl), fun K2 s2 a2 r2 b2 hs2 ha2 hb2 => ⟨ah_wr (by first | omega | (dsimp only; omega) | rfl), ?_⟩⟩
    cases hs2
    rw [hs.uniq ha2, hr.uniq hb2]
    rw [eq_no (nd_t g6)]
    rfl
   ·have p6 := g6; try simp only [dd] at p6
    refine s_skip (se_block (se_seq (s_region hP hC ?_)))
    refine os (x_bin rfl za (by rfl) b_add) ?_
    refine oM ?_
    refine o_done ?_
    refine se_loop ?_
    have hw1 : IntKind.i64.wrap (i + 1) = i + 1 := wr1 ow ow
    refine ⟨i + 1, ⟨_, st_wr ow, za, za, za, (by simp only [Tr.get_set, reduceIte, Nat.reduceEqDiff, Nat.reduceAdd, hw1, he0z0, he0z1, he0z12, he0z13, g4, g6] <;> rfl), by omega, by omega, by omega, eq_step ho ow ow ow (nd_f g6)⟩, by omega⟩
  ·have p4 := g4; try simp only [dd] at p4
   refine s_exit ?_
   refine se_seq_exit ?_
   refine se_loop_exit ?_
   refine se_block_eq (se_seq (s_seq (s_region hP hC (oA ?_))))
   refine o_done (se_seq ?_)
   refine s_ret ?_
   refine ⟨.inr rfl, _, (by simp only [Tryz.results20, resA, Tr.get_set, reduceIte, Nat.reduceEqDiff, Nat.reduceAdd] <;> rfl), fun K2 s2 a2 r2 b2 hs2 ha2 hb2 => ⟨ah_wr (by first | omega | (dsimp only; omega) | rfl), ?_⟩⟩
   cases hs2
   rw [hs.uniq ha2, hr.uniq hb2]
   rw [List.take_of_length_le ow, List.take_of_length_le ow] at ho
   rw [decide_eq_true ho]
   rfl
def R_same : List Value -> AH -> Value -> AH -> Prop := fun args h v h' => ∀ K s a r b, args = [s, r] -> IV h.t K s a -> IV h.t K r b -> h' = ⟨h.t, h.next, h.wr⟩ /\ v = .bool (decide (a = b))
noncomputable def c_same := cEx Tryz.prog 21 R_same
theorem con_same : Con Tryz.prog 21 c_same := con_ex Tryz.func21 rfl
theorem same_c {t : Tr AObj} {nx wr : Nat} {K : Nat -> Prop} {s r : Value} {a b : List Int} (hs : IV t K s a) (hr : IV t K r b) (hl : a.length <= 1000000) (hm : b.length <= 1000000) (hN : nx <= BIG) (hwr : wr <= BIG) : ∃ v h', c_same [s, r] ⟨t, nx, wr⟩ = some (v, h') /\ h' = ⟨t, nx, wr⟩ /\ v = .bool (decide (a = b)) := by
 have hP := Fits
 have hC : CallSound Tryz.prog (tabOf []) := tab_sound tab_end
 have hF0 : Fr t nx wr t nx wr 0 := Fr.refl
 suffices key : SureK Tryz.prog ⟨t, nx, wr⟩ _ [] _ (EndR Tryz.prog _ (R_same [s, r] ⟨t, nx, wr⟩)) by
  obtain ⟨v, h', q, c⟩ := sure_start (R := R_same) (sz := 26) Tryz.func21 rfl rfl zo key
  exact ⟨v, h', q, c K s a r b rfl hs hr⟩
 refine s_seq (s_region hP hC (oA ?_))
 refine o_done (se_seq (s_seq (s_seq (s_region hP hC (oM ?_)))))
 refine os (x_lenI hs rfl rfl zv rfl u22) ?_
 refine oM ?_
 refine os (x_lenI hr rfl rfl zv rfl u22) ?_
 refine os (x_bin rfl zt zt b_neq) ?_
 refine o_done (se_seq ?_)
 refine s_cond zt (fun g2 => ?_) (fun g2 => ?_)
 ·have p2 := g2; try simp only [dd] at p2
  refine s_seq (s_region hP hC (oA ?_))
  refine o_done (se_seq ?_)
  refine s_ret ?_
  refine se_seq_ret ?_
  refine ⟨.inr rfl, _, (by simp only [Tryz.results21, resA, Tr.get_set, reduceIte, Nat.reduceEqDiff, Nat.reduceAdd] <;> rfl), fun K2 s2 a2 r2 b2 hs2 ha2 hb2 => ⟨ah_wr (by first | omega | (dsimp only; omega) | rfl), ?_⟩⟩
  cases hs2
  rw [hs.uniq ha2, hr.uniq hb2]
  rw [decide_eq_false fun h => nd_t g2 (by rw [h])]
  rfl
 ·have p2 := g2; try simp only [dd] at p2
  refine s_skip (se_seq (s_seq (s_seq (s_region hP hC (oA ?_)))))
  refine o_done (se_seq (s_block ?_))
  refine s_loop (α := Int) (fun i s' => ∃ e, s' = ⟨e, 26, ⟨t, nx, wr⟩⟩ /\ e.get 0 = some (s) /\ e.get 1 = some (r) /\ e.get 5 = some (.int .i64 i) /\ 0 <= i /\ i <= a.length /\ (a.length : Int) = b.length /\ a.take i.toNat = b.take i.toNat) (fun i => (a.length - i).toNat) 0 ⟨_, rfl, zh, zh, zh, by omega, by omega, nd_f g2, by rw [Int.toNat_zero, List.take_zero, List.take_zero]⟩ ?_
  rintro i s' ⟨e, rfl, he0z0, he0z1, he0z5, i0, i1, i2, ho⟩
  refine s_seq (s_seq (s_region hP hC (oM ?_)))
  refine oM ?_
  refine os (x_lenI hs rfl rfl (by simp only [evs, ev_tmp, Tr.get_set, reduceIte, Nat.reduceEqDiff, Nat.reduceAdd, he0z0, he0z1, he0z5] <;> rfl) rfl u22) ?_
  refine os (x_bin rfl za za b_lss) ?_
  refine o_done (se_seq ?_)
  refine s_cond za (fun g4 => ?_) (fun g4 => ?_)
  ·have p4 := g4; try simp only [dd] at p4
   refine s_skip (se_seq (s_seq (s_block (s_seq ?_))))
   have hqB : nx <= BIG := by omega
   refine s_draw hP hC zr ?_
   refine dM ?_
   refine dM ?_
   obtain ⟨id1, of1, c1, hv1, hl1⟩ := hs.elem (i := i) ow ow
   refine ds (x_indexE hv1 rfl za za u22 T.s3 ow ow) ?_
   refine ds (x_load1 rfl za T.g3 (hl1 _ _ _ (fun _ _ => rfl))) ?_
   refine dM ?_
   refine dM ?_
   obtain ⟨id2, of2, c2, hv2, hl2⟩ := hr.elem (i := i) ow ow
   refine ds (x_indexE hv2 rfl za za u22 T.s3 ow ow) ?_
   refine ds (x_load1 rfl za T.g3 (hl2 _ _ _ (fun _ _ => rfl))) ?_
   refine ds (x_bin rfl za za b_neq) ?_
   refine d_done ⟨de_quiet (by simp only [List.all_append, List.all_cons, List.all_nil, infOf, decide_eq_true hqB, Bool.and_self]) zBG zBG, ?_⟩
   refine se_seq ?_
   refine s_cond za (fun g6 => ?_) (fun g6 => ?_)
   ·have p6 := g6; try simp only [dd] at p6
    refine s_seq (s_region hP hC (oA ?_))
    refine o_done (se_seq ?_)
    refine s_ret ?_
    refine se_block_ret ?_
    refine se_seq_ret ?_
    refine se_loop_ret ?_
    refine se_block_ret ?_
    refine se_seq_ret ?_
    refine ⟨.inr rfl, _, (by simp only [Tryz.results21, resA, Tr.get_set, reduceIte, Nat.reduceEqDiff, Nat.reduceAdd] <;> rfl), fun K2 s2 a2 r2 b2 hs2 ha2 hb2 => ⟨ah_wr (by first | omega | (dsimp only; omega) | rfl), ?_⟩⟩
    cases hs2
    rw [hs.uniq ha2, hr.uniq hb2]
    rw [eq_no (nd_t g6)]
    rfl
   ·have p6 := g6; try simp only [dd] at p6
    refine s_skip (se_block (se_seq (s_region hP hC (oM ?_))))
    refine os (x_bin rfl za (by rfl) b_add) ?_
    refine oA ?_
    refine o_done ?_
    refine se_loop ?_
    have hw1 : IntKind.i64.wrap (i + 1) = i + 1 := wr1 ow ow
    refine ⟨i + 1, ⟨_, st_wr ow, za, za, (by simp only [Tr.get_set, reduceIte, Nat.reduceEqDiff, Nat.reduceAdd, hw1, he0z0, he0z1, he0z5, g4, g6] <;> rfl), by omega, by omega, by omega, eq_step ho ow ow ow (nd_f g6)⟩, by omega⟩
  ·have p4 := g4; try simp only [dd] at p4
   refine s_exit ?_
   refine se_seq_exit ?_
   refine se_loop_exit ?_
   refine se_block_eq (se_seq (s_seq (s_region hP hC (oA ?_))))
   refine o_done (se_seq ?_)
   refine s_ret ?_
   refine ⟨.inr rfl, _, (by simp only [Tryz.results21, resA, Tr.get_set, reduceIte, Nat.reduceEqDiff, Nat.reduceAdd] <;> rfl), fun K2 s2 a2 r2 b2 hs2 ha2 hb2 => ⟨ah_wr (by first | omega | (dsimp only; omega) | rfl), ?_⟩⟩
   cases hs2
   rw [hs.uniq ha2, hr.uniq hb2]
   rw [List.take_of_length_le ow, List.take_of_length_le ow] at ho
   rw [decide_eq_true ho]
   rfl
end Go.Proofs.YtmladpbadglecaaGreatDoor
