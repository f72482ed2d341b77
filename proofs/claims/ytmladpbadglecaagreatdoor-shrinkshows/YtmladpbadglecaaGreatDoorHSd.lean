/-
  Steps of the proof.
-/
import Derived.Test.YtmladpbadglecaaGreatDoorHTy
import Derived.Sort.AssemblyPlain
import Derived.Test.YtmladpbadglecaaGreatDoorHWa
set_option linter.unusedSimpArgs false
set_option linter.unusedVariables false
namespace Go.AM
open Go
def OwnS (t : Tr AObj) (r id : Nat) (d : List Value) : Prop := ∃ low n0, (r = id /\ t.get id = some (.row d id low false d.length)) \/ (r ≠ id /\ t.get id = some (.alias r 0 d.length) /\ t.get r = some (.row d id low false n0))
section
variable {t t' : Tr AObj} {r r' id nx wr : Nat} {d d' : List Value}
theorem OwnR.s (h : OwnR t r id d) : OwnS t r id d := by
 obtain ⟨low, n0, _, h⟩ := h
 exact ⟨low, n0, h⟩
theorem OwnS.fam (h : OwnS t r id d) : ∃ low n0, (⟨t, nx, wr⟩ : AH).fam id = some ⟨r, 0, d.length, d, id, low, false⟩ /\ t.get r = some (.row d id low false n0) := by
 obtain ⟨low, n0, ⟨rfl, h1⟩ | ⟨h0, h1, h2⟩⟩ := h
 ·exact ⟨low, _, fam_row (h := ⟨t, nx, wr⟩) h1, h1⟩
 ·refine ⟨low, n0, ?_, h2⟩
  unfold AH.fam
  simp only [h1, h2]
theorem OwnS.keep (h : OwnS t r id d) (h1 : t'.get id = t.get id) (h2 : t'.get r = t.get r) : OwnS t' r id d := by
 obtain ⟨low, n0, ⟨rfl, k1⟩ | ⟨k0, k1, k2⟩⟩ := h
 ·exact ⟨low, n0, .inl ⟨rfl, h1.trans k1⟩⟩
 ·exact ⟨low, n0, .inr ⟨k0, h1.trans k1, h2.trans k2⟩⟩
theorem OwnS.whole (h : OwnS t r id d) : Whole ⟨t, nx, wr⟩ id d := by
 obtain ⟨low, n0, hf, hg⟩ := h.fam (nx := nx) (wr := wr)
 exact ⟨_, hf, rfl, rfl, by simp only [Fam.rb, if_true]⟩
theorem OwnS.uniq (h : OwnS t r id d) (h' : OwnS t r' id d') : r' = r /\ d' = d := by
 obtain ⟨low, n0, hf, _⟩ := h.fam (nx := 0) (wr := 0)
 obtain ⟨low', n0', hf', _⟩ := h'.fam (nx := 0) (wr := 0)
 rw [hf] at hf'
 simp only [Option.some.injEq, Fam.mk.injEq] at hf'
 exact ⟨hf'.1.symm, hf'.2.2.2.1.symm⟩
theorem x_storeS {P : Program} {T : TypeId} {off : Nat} {v : Value} (hO : OwnS t r id d) (hc : v.cells.toList = [v]) (hs : szOf P T = some 1) (hl : off < d.length) (h1 : oneC v = true) :
  ∃ t', OwnS t' r id (d.set off v) /\ (∀ k, k ≠ r -> t'.get k = t.get k) /\ ∀ {call : Call'} {e : Tr Value} {o : Oper} {p x : Operand} {wr : Nat}, o.op = .store T p x -> ev e p = some (.pointer (some ⟨id, off, none⟩)) -> ev e x = some v -> doOp P call e ⟨t, nx, wr⟩ o = some (undef, ⟨t', nx, min wr r⟩) := by
 obtain ⟨low, n0, hf0, hg⟩ := hO.fam (nx := nx) (wr := 0)
 have hsp : splice d off [v] = d.set off v := by
  unfold splice
  rw [List.set_eq_take_append_cons_drop, if_pos hl]
  simp
 have hz : v.cells.size = 1 := by rw [<-Array.length_toList, hc]; rfl
 refine ⟨t.set r (.row (d.set off v) id (if id = r then low else addT low nx off) false n0), ?_, fun k hk => by rw [Tr.get_set, if_neg hk], fun {call e o p x wr} ho hp hv => ?_⟩
 ·obtain ⟨low', n0', ⟨rfl, k1⟩ | ⟨k0, k1, k2⟩⟩ := hO
  ·rw [k1] at hg
   simp only [Option.some.injEq, AObj.row.injEq] at hg
   obtain ⟨_, _, _, _, rfl⟩ := hg
   exact ⟨_, 0, .inl ⟨rfl, by rw [Tr.get_set, if_pos rfl, List.length_set]⟩⟩
  ·exact ⟨_, n0, .inr ⟨k0, by rw [Tr.get_set, if_neg (fun q => k0 q.symm), List.length_set]; exact k1, by rw [Tr.get_set, if_pos rfl]⟩⟩
 ·have hf : (⟨t, nx, wr⟩ : AH).fam id = some ⟨r, 0, d.length, d, id, low, false⟩ := hf0
  rw [do_op (by rw [ho]; simp), ho]
  simp only [aop, hp, hv, storeV, hs, hz, if_true, hc, storeC, hf]
  rw [if_pos ⟨trivial, trivial, Nat.zero_le _, by show off + 1 <= d.length; omega, by simp [h1]⟩]
  simp only [hg, hsp]
  rfl
end
end Go.AM
namespace Go.Proofs.YtmladpbadglecaaGreatDoor
open Go Go.AM Go.Sort
abbrev Wd := Value × List Int
instance : Inhabited Wd := ⟨(.slice none 0 0, [])⟩
def ltW (x y : Wd) : Bool := lessW x.2 y.2
def vals (P : Array Wd) : List Value := P.toList.map (·.1)
theorem vals_len (P : Array Wd) : (vals P).length = P.size := by
 unfold vals
 rw [List.length_map, Array.length_toList]
theorem vals_get {P : Array Wd} {i : Nat} (h : i < P.size) : (vals P)[i]? = some (P[i]!).1 := by
 unfold vals
 rw [List.getElem?_map, Array.getElem?_toList, getElem!_pos P i h, Array.getElem?_eq_getElem h]
 rfl
theorem l_vals {h : AH} {id : Nat} {P : Array Wd} {i : Int} (hw : Whole h id (vals P)) (h0 : 0 <= i) (h1 : i < P.size) : loadC h id (0 + i.toNat * 1) 1 = some [(P[i.toNat]!).1] := by
 have hl := vals_len P
 have hi : i.toNat < P.size := by omega
 rw [Nat.zero_add, Nat.mul_one, l_whole hw _ _ (by omega), List.drop_eq_getElem_cons (by omega), List.take_succ_cons, List.take_zero]
 have := vals_get hi
 rw [List.getElem?_eq_getElem (by omega)] at this
 rw [Option.some.inj this]
theorem vals_swp {P : Array Wd} {i j : Nat} (hi : i < P.size) (hj : j < P.size) : vals (swp P i j) = ((vals P).set i (P[j]!).1).set j (P[i]!).1 := by
 unfold vals swp
 rw [Array.toList_setIfInBounds, Array.toList_setIfInBounds, List.map_set, List.map_set]
theorem mem_swp {P : Array Wd} {i j : Nat} (hi : i < P.size) (hj : j < P.size) {x : Wd} (hx : x ∈ (swp P i j).toList) : x ∈ P.toList := by
 unfold swp at hx
 rw [Array.toList_setIfInBounds, Array.toList_setIfInBounds] at hx
 have m : ∀ k, k < P.size -> P[k]! ∈ P.toList := fun k hk => by
  rw [getElem!_pos P k hk]
  exact Array.getElem_mem_toList hk
 rcases List.mem_or_eq_of_mem_set hx with hx | rfl
 ·rcases List.mem_or_eq_of_mem_set hx with hx | rfl
  ·exact hx
  ·exact m _ hj
 ·exact m _ hi
theorem mem_at {P : Array Wd} {i : Nat} (h : i < P.size) : P[i]! ∈ P.toList := by
 rw [getElem!_pos P i h]
 exact Array.getElem_mem_toList h
structure DS (t : Tr AObj) (K : Nat -> Prop) (r id : Nat) (P : Array Wd) : Prop where
 own : OwnS t r id (vals P)
 iv : ∀ x ∈ P.toList, IV t K x.1 x.2 /\ x.2.length <= 1000000
structure FrX (t : Tr AObj) (nx wr : Nat) (t' : Tr AObj) (nx' wr' r k : Nat) : Prop where
 le : nx <= nx'
 hi : nx' <= nx + k
 wlo : min wr (min r nx) <= wr'
 whi : wr' <= wr
 same : ∀ i, i < nx -> i ≠ r -> t'.get i = t.get i
section
variable {t t' : Tr AObj} {K K' : Nat -> Prop} {r r' id nx wr nx' wr' k k' : Nat} {P P' : Array Wd}
theorem FrX.refl : FrX t nx wr t nx wr r k := ⟨Nat.le_refl _, by omega, Nat.min_le_left .., Nat.le_refl _, fun _ _ _ => rfl⟩
theorem FrX.low (h : FrX t nx wr t' nx' wr' r k) (hk : k <= k') : FrX t nx wr t' nx' wr' r k' := ⟨h.le, by have := h.hi; omega, h.wlo, h.whi, h.same⟩
theorem FrX.trans {t2 : Tr AObj} {nx2 wr2 k2 m : Nat} (h : FrX t nx wr t' nx' wr' r k) (h2 : FrX t' nx' wr' t2 nx2 wr2 r k2) (hm : k + k2 <= m) : FrX t nx wr t2 nx2 wr2 r m :=
 ⟨by have := h.le; have := h2.le; omega, by have := h.hi; have := h2.hi; omega, by have := h.wlo; have := h2.wlo; have := h.le; omega, by have := h.whi; have := h2.whi; omega, fun i hi hr => (h2.same i (by have := h.le; omega) hr).trans (h.same i hi hr)⟩
theorem DS.step (h : DS t K r id P) (ho : OwnS t' r id (vals P')) (hs : ∀ i, i < nx -> i ≠ r -> t'.get i = t.get i) (hK : ∀ i, K i -> i < nx /\ i ≠ r) (hm : ∀ x ∈ P'.toList, x ∈ P.toList) : DS t' K r id P' :=
 ⟨ho, fun x hx => ⟨(h.iv x (hm x hx)).1.keep fun i hi => hs i (hK i hi).1 (hK i hi).2, (h.iv x (hm x hx)).2⟩⟩
theorem DS.uniq (h : DS t K r id P) (h' : DS t K' r' id P') : r' = r /\ P' = P := by
 obtain ⟨rfl, hv⟩ := h.own.uniq h'.own
 refine ⟨rfl, ?_⟩
 have hz : P'.size = P.size := by rw [<-vals_len, <-vals_len, hv]
 refine Array.ext hz fun i h1 h2 => ?_
 have e1 := vals_get h1
 have e2 := vals_get h2
 rw [hv, e2, getElem!_pos P i h2, getElem!_pos P' i h1] at e1
 have e1 := (Option.some.inj e1).symm
 have a := (h.iv _ (Array.getElem_mem_toList h2)).1
 have b := (h'.iv _ (Array.getElem_mem_toList h1)).1
 rw [e1] at b
 exact Prod.ext e1 (a.uniq b)
end
abbrev CMPV : Value := .func (.func 18) ⟨[]⟩ ⟨[]⟩
def Kept (P P' : Array Wd) : Prop := P'.size = P.size /\ ∀ x ∈ P'.toList, x ∈ P.toList
def SR (F : Array Wd -> Nat -> Nat -> Array Wd) (k : Nat) : List Value -> AH -> Value -> AH -> Prop := fun args h v h' => ∀ K r id c (P : Array Wd) (a b : Nat), args = [.slice (some ⟨id, 0, none⟩) P.size c, .int .i64 (a : Int), .int .i64 (b : Int), CMPV] -> DS h.t K r id P -> ∃ t' nx' wr', h' = ⟨t', nx', wr'⟩ /\ OwnS t' r id (vals (F P a b)) /\ Kept P (F P a b) /\ FrX h.t h.next h.wr t' nx' wr' r k
theorem sr_args {id id2 n n2 c c2 a a2 b b2 : Nat} {x : Value} (h : [Value.slice (some ⟨id, 0, none⟩) n c, .int .i64 (a : Int), .int .i64 (b : Int), x] = [.slice (some ⟨id2, 0, none⟩) n2 c2, .int .i64 (a2 : Int), .int .i64 (b2 : Int), x]) : id2 = id /\ a2 = a /\ b2 = b := by
 simp only [List.cons.injEq, Value.slice.injEq, Option.some.injEq, Addr.mk.injEq, Value.int.injEq, and_true, true_and] at h
 obtain ⟨⟨h1, _⟩, h2, h3⟩ := h
 exact ⟨h1.symm, by omega, by omega⟩
theorem ord_lt {a b : List Int} : decide (ordW a b < 0) = lessW a b := by
 unfold ordW
 cases lessW a b
 ·cases lessW b a <;> rfl
 ·rfl
theorem insOuter_next {a b i : Nat} {d : Array Wd} (h : i < b) : insOuter ltW a b (i + 1) (insInner ltW a i d) = insOuter ltW a b i d := by
 conv => rhs; unfold insOuter
 rw [if_pos h]
theorem insOuter_end {a b i : Nat} {d : Array Wd} (h : b <= i) : insOuter ltW a b i d = d := by
 unfold insOuter
 rw [if_neg (by omega)]
theorem insInner_go {a : Nat} {j : Int} {d : Array Wd} (h : (a : Int) < j) (hl : lessW (d[j.toNat]!).2 (d[(j - 1).toNat]!).2 = true) : insInner ltW a j.toNat d = insInner ltW a (j - 1).toNat (swp d j.toNat (j - 1).toNat) := by
 obtain ⟨n, rfl⟩ : ∃ n : Nat, j = n + 1 := ⟨(j - 1).toNat, by omega⟩
 have e1 : ((n : Int) + 1).toNat = n + 1 := by omega
 have e2 : ((n : Int) + 1 - 1).toNat = n := by omega
 rw [e1, e2] at hl
 rw [e1, e2]
 rw [insInner, if_pos (by rw [Bool.and_eq_true]; exact ⟨decide_eq_true (by omega), hl⟩)]
theorem insInner_stop {a : Nat} {j : Int} {d : Array Wd} (h : j <= a \/ lessW (d[j.toNat]!).2 (d[(j - 1).toNat]!).2 = false) : insInner ltW a j.toNat d = d := by
 by_cases h0 : j <= 0
 ·rw [show j.toNat = 0 by omega]
  rfl
 ·obtain ⟨n, rfl⟩ : ∃ n : Nat, j = n + 1 := ⟨(j - 1).toNat, by omega⟩
  have e1 : ((n : Int) + 1).toNat = n + 1 := by omega
  have e2 : ((n : Int) + 1 - 1).toNat = n := by omega
  rw [e1, e2] at h
  rw [e1]
  rw [insInner, if_neg (by
   rw [Bool.and_eq_true]
   rintro ⟨q1, q2⟩
   have q1 := of_decide_eq_true q1
   rcases h with h | h
   ·omega
   ·exact absurd (show lessW _ _ = true from q2) (by rw [h]; decide))]
end Go.Proofs.YtmladpbadglecaaGreatDoor
namespace Go.Proofs.YtmladpbadglecaaGreatDoor
open Go Go.AM Go.Sort
theorem cmpI_swap (a b : Int) : cmpI b a = - cmpI a b := by
 unfold cmpI
 split <;> split <;> (try split) <;> (try split) <;> omega
theorem cmpI_zero {a b : Int} : cmpI a b = 0 ↔ a = b := by
 unfold cmpI
 split
 ·omega
 ·split <;> omega
theorem cmpI_neg {a b : Int} : cmpI a b < 0 ↔ a < b := by
 unfold cmpI
 split
 ·omega
 ·split <;> omega
theorem cmpL_self : ∀ a : List Int, cmpL a a = 0
 | [] => rfl
 | x :: a => by
  unfold cmpL
  rw [if_pos (cmpI_zero.2 rfl)]
  exact cmpL_self a
theorem cmpL_swap : ∀ a b : List Int, cmpL b a = - cmpL a b
 | [], [] => rfl
 | [], _ :: _ => rfl
 | _ :: _, [] => rfl
 | x :: a, y :: b => by
  unfold cmpL
  have h := cmpI_swap x y
  have i := cmpL_swap a b
  by_cases e : cmpI x y = 0
  ·rw [if_pos e, if_pos (by omega), i]
  ·rw [if_neg e, if_neg (by omega), h]
theorem cmpL_eq : ∀ {a b : List Int}, cmpL a b = 0 -> a = b
 | [], [], _ => rfl
 | [], _ :: _, h => by cases h
 | _ :: _, [], h => by cases h
 | x :: a, y :: b, h => by
  unfold cmpL at h
  by_cases e : cmpI x y = 0
  ·rw [if_pos e] at h
   rw [cmpI_zero.1 e, cmpL_eq h]
  ·rw [if_neg e] at h
   exact absurd h e
theorem cmpL_trans : ∀ {a b c : List Int}, cmpL a b < 0 -> cmpL b c < 0 -> cmpL a c < 0
 | a, [], c, h, h2 => by
  cases a with
  | nil => exact absurd (show (0 : Int) < 0 from h) (by decide)
  | cons _ _ => exact absurd (show (1 : Int) < 0 from h) (by decide)
 | a, _ :: _, [], h, h2 => absurd (show (1 : Int) < 0 from h2) (by decide)
 | [], _ :: _, _ :: _, h, h2 => (by decide : (-1 : Int) < 0)
 | x :: a, y :: b, z :: c, h, h2 => by
  unfold cmpL at h h2 ⊢
  by_cases e1 : cmpI x y = 0 <;> by_cases e2 : cmpI y z = 0
  ·rw [if_pos e1] at h
   rw [if_pos e2] at h2
   rw [cmpI_zero.1 e1, if_pos e2]
   exact cmpL_trans h h2
  ·rw [if_neg e2] at h2
   rw [cmpI_zero.1 e1, if_neg e2]
   exact h2
  ·rw [if_neg e1] at h
   rw [<-cmpI_zero.1 e2, if_neg e1]
   exact h
  ·rw [if_neg e1] at h
   rw [if_neg e2] at h2
   have := cmpI_neg.1 h
   have := cmpI_neg.1 h2
   have k : cmpI x z < 0 := cmpI_neg.2 (by omega)
   rw [if_neg (by omega)]
   exact k
theorem orL_two (x y : Int) : orL [x, y] = if x = 0 then y else x := by
 unfold orL orL orL
 split
 ·split <;> omega
 ·rfl
theorem lessW_iff {a b : List Int} : lessW a b = true ↔ (trim a).length < (trim b).length \/ ((trim a).length = (trim b).length /\ cmpL (trim a) (trim b) < 0) := by
 unfold lessW
 rw [decide_eq_true_eq, orL_two]
 by_cases e : cmpI (trim a).length (trim b).length = 0
 ·rw [if_pos e]
  have := cmpI_zero.1 e
  constructor
  ·intro h; exact .inr ⟨by omega, h⟩
  ·rintro (h | h)
   ·omega
   ·exact h.2
 ·rw [if_neg e, cmpI_neg]
  have e' : ¬ ((trim a).length : Int) = (trim b).length := fun q => e (cmpI_zero.2 q)
  constructor
  ·intro h; exact .inl (by omega)
  ·rintro (h | h)
   ·omega
   ·omega
theorem lessW_not {a b : List Int} : lessW a b = false ↔ (trim b).length < (trim a).length \/ ((trim a).length = (trim b).length /\ 0 <= cmpL (trim a) (trim b)) := by
 rw [<-Bool.not_eq_true, lessW_iff]
 constructor
 ·intro h
  by_cases e : (trim a).length = (trim b).length
  ·exact .inr ⟨e, by have := fun q => h (.inr ⟨e, q⟩); omega⟩
  ·exact .inl (by have := fun q => h (.inl q); omega)
 ·rintro (h | h) (k | k) <;> omega
theorem lessW_self (a : List Int) : lessW a a = false := lessW_not.2 (.inr ⟨rfl, by rw [cmpL_self]; decide⟩)
theorem lessW_trans {a b c : List Int} (h : lessW a b = true) (h2 : lessW b c = true) : lessW a c = true := by
 rw [lessW_iff] at h h2 ⊢
 rcases h with h | h <;> rcases h2 with k | k
 ·exact .inl (by omega)
 ·exact .inl (by omega)
 ·exact .inl (by omega)
 ·exact .inr ⟨by omega, cmpL_trans h.2 k.2⟩
theorem lessW_ntrans {a b c : List Int} (h : lessW a b = false) (h2 : lessW b c = false) : lessW a c = false := by
 rw [lessW_not] at h h2 ⊢
 rcases h with h | h <;> rcases h2 with k | k
 ·exact .inl (by omega)
 ·exact .inl (by omega)
 ·exact .inl (by omega)
 ·refine .inr ⟨by omega, ?_⟩
  have s1 := cmpL_swap (trim a) (trim b)
  have s2 := cmpL_swap (trim b) (trim c)
  have s3 := cmpL_swap (trim a) (trim c)
  by_cases e1 : cmpL (trim a) (trim b) = 0
  ·rw [cmpL_eq e1]; exact k.2
  ·by_cases e2 : cmpL (trim b) (trim c) = 0
   ·rw [<-cmpL_eq e2]; exact h.2
   ·have := cmpL_trans (a := trim c) (b := trim b) (c := trim a) (by omega) (by omega)
    omega
theorem lessW_tot {a b : List Int} (h : lessW a b = false) (h2 : lessW b a = false) : trim a = trim b := by
 rw [lessW_not] at h h2
 have s1 := cmpL_swap (trim a) (trim b)
 exact cmpL_eq (by rcases h with h | h <;> rcases h2 with k | k <;> omega)
theorem swo : SWO ltW := ⟨fun x => lessW_self x.2, fun x y z h k => lessW_trans h k, fun x y z h k => lessW_ntrans h k⟩
theorem perm_kept {a b : Nat} {P P' : Array Wd} (h : PermIn a b P P') (hb : b <= P.size) : Kept P P' := by
 refine ⟨h.1, fun x hx => ?_⟩
 obtain ⟨i, hi, rfl⟩ := Array.getElem_of_mem (Array.mem_toList_iff.1 hx)
 rw [<-getElem!_pos P' i hi]
 by_cases hin : i < a \/ b <= i
 ·rw [h.2.1 i hin]
  exact mem_at (by rw [<-h.1]; exact hi)
 ·exact permIn_all P P' a b (fun x => x ∈ P.toList) hb h (fun k h1 h2 => mem_at (by omega)) i (by omega) (by omega)
theorem ps_go {P : Array Wd} {a i b : Int} (h0 : 0 <= a) (h1 : a < i) (hs : SortedIn ltW a.toNat i.toNat P) (hb : (decide (i < b) && !lessW (P[i.toNat]!).2 (P[(i - 1).toNat]!).2) = true) : SortedIn ltW a.toNat (i + 1).toNat P := by
 rw [Bool.and_eq_true, Bool.not_eq_true'] at hb
 rw [show (i + 1).toNat = i.toNat + 1 by omega]
 refine SortedIn.snoc swo hs ?_
 rw [show i.toNat - 1 = (i - 1).toNat by omega]
 exact hb.2
theorem Kept.trans {A B C : Array Wd} (h : Kept A B) (h2 : Kept B C) : Kept A C := ⟨h2.1.trans h.1, fun x hx => h.2 x (h2.2 x hx)⟩
end Go.Proofs.YtmladpbadglecaaGreatDoor
