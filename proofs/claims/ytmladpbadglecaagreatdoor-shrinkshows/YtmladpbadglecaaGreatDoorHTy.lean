/-
  The types of this seat's program, as AM needs them.
-/
import Derived.Test.YtmladpbadglecaaGreatDoorHBa
import Derived.Test.YtmladpbadglecaaGreatDoorHA3
import Derived.KernelRfl
import Derived.Sort.Statements
set_option linter.unusedSimpArgs false
set_option linter.unusedVariables false
namespace Go.Proofs.YtmladpbadglecaaGreatDoor
open Go.AM
set_option maxRecDepth 100000
theorem zt {p : Prop} (h : p := by simp only [Tr.get_set, reduceIte, Nat.reduceEqDiff, Nat.reduceAdd, ev_tmp] <;> rfl) : p := h
theorem za {p : Prop} (h : p := by (try simp only [Tr.get_set, reduceIte, Nat.reduceEqDiff, Nat.reduceAdd, ev_tmp]) <;> first | rfl | assumption) : p := h
theorem zv {p : Prop} (h : p := by simp only [evs, ev_tmp, Tr.get_set, reduceIte, Nat.reduceEqDiff, Nat.reduceAdd] <;> rfl) : p := h
theorem zp {p : Prop} (h : p := by simp only [evP, ev_tmp, Tr.get_set, reduceIte, Nat.reduceEqDiff, Nat.reduceAdd] <;> rfl) : p := h
theorem zh {p : Prop} (h : p := by simp only [Tr.get_set, reduceIte, Nat.reduceEqDiff, Nat.reduceAdd] <;> rfl) : p := h
theorem zo {p : Prop} (h : p := by simp only [Tr.ofList, Nat.zero_add, Nat.reduceAdd] <;> rfl) : p := h
theorem zr {p : Prop} (h : p := by kernel_rfl) : p := h
theorem zd {p : Prop} (h : p := by decide) : p := h
theorem zw {p : Prop} (h : p := by (try simp only [Tr.get_set, reduceIte, Nat.reduceEqDiff, Nat.reduceAdd, ev_tmp]) <;> first | exact congrArg (fun b => some (Value.bool b)) (by assumption) | assumption | rfl) : p := h
theorem zb {p : Prop} (h : p := by simp only [if_true, if_false, Bool.false_eq_true, ev_tmp, Tr.get_set, reduceIte, Nat.reduceEqDiff, Nat.reduceAdd] <;> first | rfl | assumption) : p := h
theorem evs_nil {e : Tr Value} : evs e [] = some [] := rfl
theorem evs_cons {e : Tr Value} {a : Operand} {l : List Operand} {x : Value} {xs : List Value} (h : ev e a = some x) (k : evs e l = some xs) : evs e (a :: l) = some (x :: xs) := by simp only [evs, h, k]
theorem ze {p : Prop} (h : p := by repeat (first | exact evs_nil | refine evs_cons (by (try simp only [ev_tmp, Tr.get_set, reduceIte, Nat.reduceEqDiff, Nat.reduceAdd]) <;> first | assumption | rfl) ?_)) : p := h
theorem ozz {p : Prop} (h : p := by (try dsimp only); omega) : p := h
theorem zBG {p : Prop} (h : p := by show _ <= BIG; first | omega | (dsimp only; omega)) : p := h
theorem wZ {ops : Array Oper} {o : Oper} {e : Tr Value} {j t : Nat} {w : Bool} (hg : o.guard = some (j, w) := by rfl) (hd : (ops[j]?).bind (·.dst) = some t := by rfl) (he : e.get t = some (.bool w) := by (try simp only [Tr.get_set, reduceIte, Nat.reduceEqDiff, Nat.reduceAdd, ev_tmp]) <;> first | exact congrArg (fun b => some (Value.bool b)) (by assumption) | assumption | rfl) : wantedA ops e o = some true := wA_on hg hd he
theorem hg {p : Prop} (h : p := by (repeat (first | rw [Tr.get_set, if_neg (by omega)])) <;> first | rfl | assumption | (rw [Tr.get_set, if_pos (by omega)]; done) | (rw [Tr.get_set, if_pos (by omega)]; rfl)) : p := h
theorem dd : (∀ {p : Prop} [Decidable p], (decide p = true) = p) /\ (∀ {p : Prop} [Decidable p], decide p = false ↔ ¬p) /\ (∀ {b : Bool}, (!b) = true ↔ b = false) /\ (∀ {b : Bool}, (!b) = false ↔ b = true) /\ (∀ b : Bool, (¬b = true) = (b = false)) /\ (∀ b : Bool, (¬b = false) = (b = true)) /\ (∀ a b : Bool, ((a && b) = true) = (a = true /\ b = true)) /\ (∀ {a b : Int}, ¬a < b ↔ b <= a) /\ (∀ {a b : Int}, ¬a <= b ↔ b < a) := ⟨d1, d2, d3, d4, d5, d6, d7, d8, d9⟩
theorem gn {α : Type} {t : Tr α} {i j : Nat} {x : α} (h : ¬ j = i) : (t.set i x).get j = t.get j := by rw [Tr.get_set, if_neg h]
theorem gp {α : Type} {t : Tr α} {i j : Nat} {x : α} (h : j = i) : (t.set i x).get j = some x := by rw [Tr.get_set, if_pos h]
section
variable {P : Program} {call : Call'} {ops : Array Oper} {o : Oper} {e : Tr Value} {n d : Nat} {K : St -> Prop} {KD : St -> List Inf -> Prop} {rest : List Oper} {v : Value} {x : Operand} {h : AH} {t : Tr AObj} {nx wr : Nat} {acc : List Inf}
theorem oM (k : OpsK P call ops rest ⟨e.set d v, n, h⟩ K) (ho : o.op = .move x := by rfl) (hx : ev e x = some v := by (try simp only [Tr.get_set, reduceIte, Nat.reduceEqDiff, Nat.reduceAdd, ev_tmp]) <;> first | rfl | assumption) (hw : wantedA ops e o = some true := by exact wA_none rfl) (hd : o.dst = some d := by rfl) (hlt : d < n := by decide) : OpsK P call ops (o :: rest) ⟨e, n, h⟩ K := o_step hw hd (x_move ho hx) hlt k
theorem oA (k : OpsK P call ops rest ⟨e.set d v, n, h⟩ K) (ho : o.op = .assign x := by rfl) (hx : ev e x = some v := by (try simp only [Tr.get_set, reduceIte, Nat.reduceEqDiff, Nat.reduceAdd, ev_tmp]) <;> first | rfl | assumption) (hw : wantedA ops e o = some true := by exact wA_none rfl) (hd : o.dst = some d := by rfl) (hlt : d < n := by decide) : OpsK P call ops (o :: rest) ⟨e, n, h⟩ K := o_step hw hd (x_assign ho hx) hlt k
theorem dS {j s : Nat} {q w : Bool} (k : DrawK P call ops rest ⟨e.set d undef, n, h⟩ (acc ++ [Inf.skip]) KD) (hg : o.guard = some (j, w) := by rfl) (hs : (ops[j]?).bind (·.dst) = some s := by rfl) (he : e.get s = some (.bool q) := by (try simp only [Tr.get_set, reduceIte, Nat.reduceEqDiff, Nat.reduceAdd, ev_tmp]) <;> first | exact congrArg (fun b => some (Value.bool b)) (by assumption) | assumption | rfl) (hq : (q == w) = false := by rfl) (hd : o.dst = some d := by rfl) (hlt : d < n := by decide) : DrawK P call ops (o :: rest) ⟨e, n, h⟩ acc KD := d_skip (wA_off hg hs he hq) hd hlt k
theorem oS {j s : Nat} {q w : Bool} (k : OpsK P call ops rest ⟨e.set d undef, n, h⟩ K) (hg : o.guard = some (j, w) := by rfl) (hs : (ops[j]?).bind (·.dst) = some s := by rfl) (he : e.get s = some (.bool q) := by (try simp only [Tr.get_set, reduceIte, Nat.reduceEqDiff, Nat.reduceAdd, ev_tmp]) <;> first | exact congrArg (fun b => some (Value.bool b)) (by assumption) | assumption | rfl) (hq : (q == w) = false := by rfl) (hd : o.dst = some d := by rfl) (hlt : d < n := by decide) : OpsK P call ops (o :: rest) ⟨e, n, h⟩ K := o_skip (wA_off hg hs he hq) hd hlt k
theorem dM (k : DrawK P call ops rest ⟨e.set d v, n, ⟨t, nx, min wr BIG⟩⟩ (acc ++ [infOf e t nx o.op t nx BIG]) KD) (ho : o.op = .move x := by rfl) (hx : ev e x = some v := by (try simp only [Tr.get_set, reduceIte, Nat.reduceEqDiff, Nat.reduceAdd, ev_tmp]) <;> first | rfl | assumption) (hw : wantedA ops e o = some true := by exact wA_none rfl) (hd : o.dst = some d := by rfl) (hlt : d < n := by decide) : DrawK P call ops (o :: rest) ⟨e, n, ⟨t, nx, wr⟩⟩ acc KD := d_step hw hd (x_move ho hx) hlt k
end
set_option linter.defProp false
def u22 := Tryz.underlying22
def u28 := Tryz.underlying28
def u31 := Tryz.underlying31
def u38 := Tryz.underlying38
theorem ow {p : Prop} (h : p := by omega) : p := h
theorem T.s3 : szOf Tryz.prog 3 = some 1 := by kernel_rfl
theorem T.g3 : aggOf Tryz.prog 3 = some false := by kernel_rfl
theorem T.z3 : (Tryz.prog.info? 3).bind (·.zero) = some (.int .i64 0) := by kernel_rfl
theorem T.g4 : aggOf Tryz.prog 4 = some false := by kernel_rfl
theorem T.s9 : szOf Tryz.prog 9 = some 1 := by kernel_rfl
theorem T.g9 : aggOf Tryz.prog 9 = some false := by kernel_rfl
theorem T.z9 : (Tryz.prog.info? 9).bind (·.zero) = some (.string .empty) := by kernel_rfl
theorem T.s22 : szOf Tryz.prog 22 = some 1 := by kernel_rfl
theorem T.g22 : aggOf Tryz.prog 22 = some false := by kernel_rfl
theorem T.i22 : TyI Tryz.prog 3 1 8 := ⟨_, Tryz.type3, rfl, rfl, rfl⟩
theorem T.z22 : (Tryz.prog.info? 22).bind (·.zero) = some (.slice none 0 0) := by kernel_rfl
theorem T.s28 : szOf Tryz.prog 28 = some 22 := by kernel_rfl
theorem T.g28 : aggOf Tryz.prog 28 = some true := by kernel_rfl
def T.K28 : List Lk := [.int .i64, .str, .int .i64, .int .i64, .int .i64, .int .i64, .int .u8, .int .u8, .int .u8, .int .u8, .int .u8, .int .u8, .int .u8, .int .u8, .int .u8, .int .u8, .int .u8, .int .u8, .int .u8, .int .u8, .int .u8, .int .u8]
theorem T.f28 : flatTy Tryz.prog 20 28 = some T.K28 := by kernel_rfl
theorem T.s31 : szOf Tryz.prog 31 = some 3 := by kernel_rfl
theorem T.g31 : aggOf Tryz.prog 31 = some true := by kernel_rfl
theorem T.z31 : (Tryz.prog.info? 31).bind (·.zero) = some (.agg ⟨[.int .i64 0, .string .empty, .int .i64 0]⟩) := by kernel_rfl
theorem T.s35 : szOf Tryz.prog 35 = some 3 := by kernel_rfl
theorem T.g35 : aggOf Tryz.prog 35 = some true := by kernel_rfl
theorem T.z35 : (Tryz.prog.info? 35).bind (·.zero) = some (.agg ⟨[.int .i64 0, .string .empty, .int .i64 0]⟩) := by kernel_rfl
theorem T.i38 : TyI Tryz.prog 22 1 24 := ⟨_, Tryz.type22, rfl, rfl, rfl⟩
end Go.Proofs.YtmladpbadglecaaGreatDoor
namespace Go.AM
open Go
def CapW (n c : Nat) : Prop := c = n \/ ∃ q, c = n + 1 + 4294967296 * q
def IV (t : Tr AObj) (K : Nat -> Prop) (s : Value) (l : List Int) : Prop :=
 (l = [] /\ s = .slice none 0 0) \/ ∃ id off c, s = .slice (some ⟨id, off, none⟩) l.length c /\ CapW l.length c /\ ∀ t' nx' wr', (∀ i, K i -> t'.get i = t.get i) -> loadC ⟨t', nx', wr'⟩ id off l.length = some (ints l)
theorem ints_take {l : List Int} {n : Nat} : ints (l.take n) = (ints l).take n := List.map_take ..
theorem ints_drop {l : List Int} {n : Nat} : ints (l.drop n) = (ints l).drop n := List.map_drop ..
theorem ints_oneC (l : List Int) : (ints l).all oneC = true := by
 rw [List.all_eq_true]
 intro v hv
 obtain ⟨n, _, rfl⟩ := List.mem_map.1 hv
 rfl
theorem ints_inj {l m : List Int} (h : ints l = ints m) : l = m := by
 have := congrArg unints h
 rwa [unints_ints, unints_ints] at this
section
variable {t t' : Tr AObj} {K K' : Nat -> Prop} {s : Value} {l : List Int} {nx nx' wr wr' id low : Nat} {ro : Bool}
theorem IV.keep (h : IV t K s l) (hk : ∀ i, K i -> t'.get i = t.get i) : IV t' K s l := by
 rcases h with h | ⟨id, off, c, h1, hc, h2⟩
 ·exact .inl h
 ·exact .inr ⟨id, off, c, h1, hc, fun t2 nx2 wr2 hk2 => h2 t2 nx2 wr2 fun i hi => (hk2 i hi).trans (hk i hi)⟩
theorem IV.mono (h : IV t K s l) (hk : ∀ i, K i -> K' i) : IV t K' s l := by
 rcases h with h | ⟨id, off, c, h1, hc, h2⟩
 ·exact .inl h
 ·exact .inr ⟨id, off, c, h1, hc, fun t2 nx2 wr2 hk2 => h2 t2 nx2 wr2 fun i hi => hk2 i (hk i hi)⟩
theorem iv_row {c : Nat} (hK : K id) (hc : CapW l.length c) (hr : t.get id = some (.row (ints l) id low ro (ints l).length)) : IV t K (.slice (some ⟨id, 0, none⟩) l.length c) l :=
 .inr ⟨id, 0, c, rfl, hc, fun t' nx' wr' hk => l_all (whole_row ((hk id hK).trans hr) rfl) (ints_len l).symm⟩
theorem iv_sl (hs : Sl id 1 l.length s) (hK : K id) (hr : t.get id = some (.row (ints l) id low ro (ints l).length)) : IV t K s l := by
 rcases hs with ⟨rfl, h⟩ | rfl
 ·exact .inl ⟨List.eq_nil_of_length_eq_zero h, rfl⟩
 ·exact iv_row hK (.inr ⟨0, rfl⟩) hr
theorem IV.len (h : IV t K s l) : ∃ a c, s = .slice a l.length c := by
 rcases h with ⟨rfl, rfl⟩ | ⟨id, off, c, rfl, _⟩
 ·exact ⟨_, _, rfl⟩
 ·exact ⟨_, _, rfl⟩
theorem IV.one (h : IV t K s l) : oneC s = true := by
 rcases h with ⟨rfl, rfl⟩ | ⟨id, off, c, rfl, _⟩ <;> rfl
theorem IV.uniq {l' : List Int} (h : IV t K s l) (h' : IV t K' s l') : l' = l := by
 rcases h with ⟨rfl, rfl⟩ | ⟨id, off, c, rfl, hc, hl⟩
 ·rcases h' with ⟨rfl, _⟩ | ⟨id', off', c', h1, _⟩
  ·rfl
  ·cases h1
 ·rcases h' with ⟨_, h1⟩ | ⟨id', off', c', h1, hc', hl'⟩
  ·cases h1
  ·simp only [Value.slice.injEq, Option.some.injEq, Addr.mk.injEq] at h1
   obtain ⟨⟨rfl, rfl, _⟩, hn, _⟩ := h1
   have a := hl t 0 0 fun _ _ => rfl
   have b := hl' t 0 0 fun _ _ => rfl
   rw [<-hn, a] at b
   exact (ints_inj (Option.some.inj b)).symm
theorem x_lenI {P : Program} {call : Call'} {e : Tr Value} {h : AH} {o : Oper} {c : Call} {T el : TypeId} (hs : IV t K s l) (ho : o.op = .call c) (hc : c.callee = .builtin .len) (ha : evs e c.args.toList = some [s]) (ht : c.argTypes[0]? = some T) (hu : P.underlying T = some (.slice el)) : doOp P call e h o = some (.int .i64 l.length, h) := by
 obtain ⟨a, cp, rfl⟩ := hs.len
 exact x_len ho hc ha ht hu
theorem cells_iv {P : Program} {T el : TypeId} (hs : IV t K s l) (hu : P.underlying T = some (.slice el)) (hz : szOf P el = some 1) : cellsV P ⟨t, nx, wr⟩ T s = some (l.length, ints l) := by
 rcases hs with ⟨rfl, rfl⟩ | ⟨id, off, c, rfl, hc, hl⟩
 ·unfold cellsV
  simp only [hu, hz]
  rfl
 ·exact cells_row hu hz (by rw [Nat.mul_one]; exact hl _ _ _ fun _ _ => rfl)
theorem IV.elem (hs : IV t K s l) {i : Int} (h0 : 0 <= i) (h1 : i < l.length) : ∃ id off c, s = .slice (some ⟨id, off, none⟩) l.length c /\ ∀ t' nx' wr', (∀ i, K i -> t'.get i = t.get i) -> loadC ⟨t', nx', wr'⟩ id (off + i.toNat * 1) 1 = some [.int .i64 (ith l i)] := by
 rcases hs with ⟨rfl, rfl⟩ | ⟨id, off, c, rfl, hc, hl⟩
 ·simp at h1; omega
 ·refine ⟨id, off, c, rfl, fun t' nx' wr' hk => ?_⟩
  have := loadC_part (m := i.toNat) (k := 1) (hl t' nx' wr' hk) (by omega)
  rw [Nat.mul_one, this, ints_at (by omega)]
  rfl
theorem x_indexE {P : Program} {call : Call'} {e : Tr Value} {h : AH} {o : Oper} {T el : TypeId} {x i : Operand} {id off len cap sz : Nat} {κ : IntKind} {n : Int} (hv : s = .slice (some ⟨id, off, none⟩) len cap) (ho : o.op = .indexAddr T x i) (hx : ev e x = some s) (hi : ev e i = some (.int κ n)) (hu : P.underlying T = some (.slice el)) (hz : szOf P el = some sz) (h0 : 0 <= n) (h1 : n < len) : doOp P call e h o = some (.pointer (some ⟨id, off + n.toNat * sz, none⟩), h) := by
 subst hv
 exact x_index ho hx hi hu hz h0 h1
theorem x_sliceW {P : Program} {T el : TypeId} {i j : Int} {lo hi : Option Operand} (hs : IV t K s l) (hu : P.underlying T = some (.slice el)) (hz : szOf P el = some 1) (h0 : 0 <= i) (h1 : i <= j) (h2 : j <= l.length) (hlo : lo = none -> i = 0) (hhi : hi = none -> j = l.length) :
  ∃ w, IV t K w ((l.drop i.toNat).take (j.toNat - i.toNat)) /\ ∀ {call : Call'} {e : Tr Value} {o : Oper} {x : Operand} {t' : Tr AObj} {nx wr : Nat}, (∀ i, K i -> t'.get i = t.get i) -> o.op = .slice T x lo hi none -> ev e x = some s -> (∀ a, lo = some a -> ev e a = some (.int .i64 i)) -> (∀ a, hi = some a -> ev e a = some (.int .i64 j)) -> doOp P call e ⟨t', nx, wr⟩ o = some (w, ⟨t', nx, wr⟩) := by
 have hj0 : 0 <= j := by omega
 have ev1 : ∀ {e : Tr Value}, (∀ a, lo = some a -> ev e a = some (.int .i64 i)) -> ∃ u, evO e lo = some u /\ nat? u 0 = some i.toNat := by
  intro e ha
  cases lo with
  | none => exact ⟨none, rfl, by rw [hlo rfl]; rfl⟩
  | some a => exact ⟨some (.int .i64 i), by simp only [evO, ha a rfl, Option.map_some], by simp only [nat?, if_pos h0]⟩
 have ev2 : ∀ {e : Tr Value}, (∀ a, hi = some a -> ev e a = some (.int .i64 j)) -> ∃ u, evO e hi = some u /\ nat? u l.length = some j.toNat := by
  intro e ha
  cases hi with
  | none => exact ⟨none, rfl, by rw [hhi rfl]; simp [nat?]⟩
  | some a => exact ⟨some (.int .i64 j), by simp only [evO, ha a rfl, Option.map_some], by simp only [nat?, if_pos hj0]⟩
 have hlen : ((l.drop i.toNat).take (j.toNat - i.toNat)).length = j.toNat - i.toNat := by rw [List.length_take, List.length_drop]; omega
 have z1 : ∀ {e : Tr Value}, evO e none = some none := rfl
 have z2 : ∀ d, nat? none d = some d := fun _ => rfl
 rcases hs with ⟨rfl, rfl⟩ | ⟨id, off, c, rfl, hc, hl⟩
 ·have hj : j = 0 := by simp at h2; omega
  have hi' : i = 0 := by omega
  subst hj; subst hi'
  refine ⟨.slice none 0 0, .inl ⟨by simp, rfl⟩, fun {call e o x t' nx wr} hk ho hx ha hb => ?_⟩
  obtain ⟨u1, a1, a2⟩ := ev1 ha
  obtain ⟨u2, b1, b2⟩ := ev2 hb
  rw [do_op (by rw [ho]; simp), ho]
  have b2 : nat? u2 0 = some 0 := b2
  have a2 : nat? u1 0 = some 0 := a2
  simp only [aop, hx, a1, b1, z1, z2, sliceV, hu, hz, sliceG, a2, b2]
  simp
 ·have hp : ∀ t' nx' wr', (∀ i, K i -> t'.get i = t.get i) -> loadC ⟨t', nx', wr'⟩ id (off + i.toNat * 1) (j.toNat - i.toNat) = some (ints ((l.drop i.toNat).take (j.toNat - i.toNat))) := fun t' nx' wr' hk => by
   rw [Nat.mul_one, loadC_part (m := i.toNat) (k := j.toNat - i.toNat) (hl t' nx' wr' hk) (by omega), ints_take, ints_drop]
  rcases hc with rfl | ⟨q, rfl⟩
  ·by_cases hjl : j = l.length
   ·-- up to the end: the capacity is the length
    by_cases hil : l.length = i.toNat
    ·refine ⟨.slice (some ⟨id, off, none⟩) (j.toNat - i.toNat) (j.toNat - i.toNat), .inr ⟨id, off, _, by rw [hlen], .inl hlen.symm, fun t' nx' wr' hk => ?_⟩, fun {call e o x t' nx wr} hk ho hx ha hb => ?_⟩
     ·have e0 : j.toNat - i.toNat = 0 := by omega
      rw [hlen, e0, List.take_zero]
      have := loadC_part (m := 0) (k := 0) (hl t' nx' wr' hk) (by omega)
      rw [Nat.add_zero, List.take_zero] at this
      exact this
     ·obtain ⟨u1, a1, a2⟩ := ev1 ha
      obtain ⟨u2, b1, b2⟩ := ev2 hb
      rw [do_op (by rw [ho]; simp), ho]
      simp only [aop, hx, a1, b1, z1, z2, sliceV, hu, hz, sliceG, a2, b2, Option.isNone_some, Bool.false_eq_true, false_and, if_false, Option.isNone_none, true_and]
      rw [if_neg (by omega), if_pos ⟨by omega, by omega, by omega, by decide, by simp, by decide, .inr trivial⟩]
      rw [if_pos (by omega), if_pos hil]
      rfl
    ·refine ⟨.slice (some ⟨id, off + i.toNat * 1, none⟩) (j.toNat - i.toNat) (j.toNat - i.toNat), .inr ⟨id, off + i.toNat * 1, _, by rw [hlen], .inl hlen.symm, fun t' nx' wr' hk => by rw [hlen]; exact hp t' nx' wr' hk⟩, fun {call e o x t' nx wr} hk ho hx ha hb => ?_⟩
     obtain ⟨u1, a1, a2⟩ := ev1 ha
     obtain ⟨u2, b1, b2⟩ := ev2 hb
     rw [do_op (by rw [ho]; simp), ho]
     simp only [aop, hx, a1, b1, z1, z2, sliceV, hu, hz, sliceG, a2, b2, Option.isNone_some, Bool.false_eq_true, false_and, if_false, Option.isNone_none, true_and]
     rw [if_neg (by omega), if_pos ⟨by omega, by omega, by omega, by decide, by simp, by decide, .inr trivial⟩]
     rw [if_pos (by omega), if_neg hil]
     rfl
   ·refine ⟨.slice (some ⟨id, off + i.toNat * 1, none⟩) (j.toNat - i.toNat) (j.toNat - i.toNat + 1 + 4294967296 * (l.length - j.toNat)), .inr ⟨id, off + i.toNat * 1, _, by rw [hlen], .inr ⟨_, by rw [hlen]⟩, fun t' nx' wr' hk => by rw [hlen]; exact hp t' nx' wr' hk⟩, fun {call e o x t' nx wr} hk ho hx ha hb => ?_⟩
    obtain ⟨u1, a1, a2⟩ := ev1 ha
    obtain ⟨u2, b1, b2⟩ := ev2 hb
    rw [do_op (by rw [ho]; simp), ho]
    simp only [aop, hx, a1, b1, z1, z2, sliceV, hu, hz, sliceG, a2, b2, Option.isNone_some, Bool.false_eq_true, false_and, if_false, Option.isNone_none, true_and]
    rw [if_neg (by omega), if_pos ⟨by omega, by omega, by omega, by decide, by simp, by decide, .inr trivial⟩]
    rw [if_neg (by omega), Nat.mul_one, hl t' nx wr hk]
    rfl
  ·refine ⟨.slice (some ⟨id, off + i.toNat * 1, none⟩) (j.toNat - i.toNat) (j.toNat - i.toNat + 1 + 4294967296 * (l.length + q - j.toNat)), .inr ⟨id, off + i.toNat * 1, _, by rw [hlen], .inr ⟨_, by rw [hlen]⟩, fun t' nx' wr' hk => by rw [hlen]; exact hp t' nx' wr' hk⟩, fun {call e o x t' nx wr} hk ho hx ha hb => ?_⟩
   obtain ⟨u1, a1, a2⟩ := ev1 ha
   obtain ⟨u2, b1, b2⟩ := ev2 hb
   have hsp : spareOk 1 l.length (l.length + 1 + 4294967296 * q) := spareOk_mk (by decide) (by decide)
   rw [do_op (by rw [ho]; simp), ho]
   simp only [aop, hx, a1, b1, z1, z2, sliceV, hu, hz, sliceG, a2, b2, Option.isNone_some, Bool.false_eq_true, false_and, if_false, Option.isNone_none, true_and]
   rw [if_pos (by omega), spareK_eq, if_pos ⟨hsp, by omega, by omega⟩]
   rfl
def NW (l : List Int) (k : Nat) (t : Tr AObj) (nx wr : Nat) (v : Value) (h' : AH) : Prop := ∃ t' nx' wr', h' = ⟨t', nx', wr'⟩ /\ Fr t nx wr t' nx' wr' k /\ IV t' (fun i => nx <= i /\ i < nx') v l
theorem app_new {P : Program} {T el : TypeId} {id by' : Nat} (hr : t.get id = some (.row [] id low ro 0)) (hid : id < nx) (hu : P.underlying T = some (.slice el)) (hi : TyI P el 1 by') (hb : 2 * (0 + l.length) * by' <= 281474976710656) (hB : nx + l.length < BIG) : ∃ v' t' nx', appendV P ⟨t, nx, wr⟩ T (.slice (some ⟨id, 0, none⟩) 0 0) l.length (ints l) = some (v', ⟨t', nx', wr⟩) /\ nx <= nx' /\ nx' <= nx + 1 /\ (∀ i, i < nx -> t'.get i = t.get i) /\ IV t' (fun i => id <= i /\ i < nx') v' l := by
 have hl0 : ∀ t' nx' wr', t'.get id = t.get id -> loadC ⟨t', nx', wr'⟩ id 0 0 = some [] := fun t' nx' wr' hk => l_all (whole_row (d := []) (hk.trans hr) rfl) rfl
 by_cases h : l = []
 ·subst h
  exact ⟨_, t, nx, ya_zero hu hi (by omega) (by omega), Nat.le_refl _, by omega, fun _ _ => rfl, .inr ⟨id, 0, 0, rfl, .inl rfl, fun t' nx' wr' hk => hl0 t' nx' wr' (hk id ⟨Nat.le_refl _, hid⟩)⟩⟩
 ·have hp : 0 < l.length := List.length_pos_iff.2 h
  have := ya_full (t := t) (nx := nx) (wr := wr) (id := id) (m := l.length) (len := 0) (old := []) (news := ints l) hu hi (by decide) (by rw [ints_len, Nat.mul_one]) hb (by omega) (ints_oneC l) hp (by rw [Nat.zero_mul]; exact hl0 t nx wr rfl)
  rw [List.nil_append, Nat.zero_add] at this
  exact ⟨_, _, _, this, by omega, by omega, fun i hi => by rw [Tr.get_set, if_neg (by omega)], iv_row ⟨by omega, by omega⟩ (.inr ⟨0, rfl⟩) (by rw [Tr.get_set, if_pos rfl])⟩
end
end Go.AM
namespace Go.Proofs.YtmladpbadglecaaGreatDoor
open Go Go.AM
def inR (n : Int) : Prop := -9223372036854775808 <= n /\ n <= 9223372036854775807
instance (n : Int) : Decidable (inR n) := by unfold inR; infer_instance
theorem wr1 {i : Int} (h0 : 0 <= i) (h1 : i < 4611686018427387904) : IntKind.i64.wrap (i + 1) = i + 1 := IntWalk.i64_in _ (by omega)
theorem Fr.low {t00 t : Tr AObj} {n00 w00 nx wr k k' : Nat} (hF : Fr t00 n00 w00 t nx wr k) (h : k <= k') : Fr t00 n00 w00 t nx wr k' := ⟨hF.le, by have := hF.hi; omega, hF.wlo, hF.whi, hF.same⟩
theorem b_addR {P : Program} {t : TypeId} {xo yo : Operand} {a b : Int} (h : -9223372036854775808 <= a + b /\ a + b <= 9223372036854775807) : binV P .add t xo yo (.int .i64 a) (.int .i64 b) = some (.int .i64 (a + b)) := by rw [b_add, IntWalk.i64_in _ h]
theorem one_cells {v : Value} (h : oneC v = true) : v.cells.toList = [v] := by
 cases v <;> first | rfl | cases h
theorem de_ok {b : Array Nat} {w nx wr : Nat} {infs : List Inf} (h : tailOk b w infs = true) (h1 : nx <= BIG) (h2 : wr <= BIG) : (tailOk b w infs && decide (nx <= BIG) && decide (wr <= BIG)) = true := by
 rw [h, decide_eq_true h1, decide_eq_true h2]; rfl
def trN (l : List Int) : Nat -> Nat
 | 0 => 0
 | n + 1 => if ith l n = 0 then trN l n else n + 1
theorem trN_le (l : List Int) : ∀ n, trN l n <= n
 | 0 => Nat.le_refl _
 | n + 1 => by
  unfold trN
  split
  ·exact Nat.le_succ_of_le (trN_le l n)
  ·exact Nat.le_refl _
def trim (l : List Int) : List Int := l.take (trN l l.length)
theorem trim_le (l : List Int) : (trim l).length <= l.length := by
 unfold trim
 rw [List.length_take]
 omega
def cmpI (a b : Int) : Int := if a < b then -1 else if b < a then 1 else 0
def orL : List Int -> Int
 | [] => 0
 | x :: r => if x = 0 then orL r else x
def cmpL : List Int -> List Int -> Int
 | [], [] => 0
 | [], _ :: _ => -1
 | _ :: _, [] => 1
 | a :: s, b :: r => if cmpI a b = 0 then cmpL s r else cmpI a b
def lessW (a b : List Int) : Bool := decide (orL [cmpI (trim a).length (trim b).length, cmpL (trim a) (trim b)] < 0)
def ordW (a b : List Int) : Int := if lessW a b then -1 else if lessW b a then 1 else 0
theorem trN_zero {l : List Int} {i : Int} (h : i <= 0) : trN l i.toNat = 0 := by
 rw [show i.toNat = 0 by omega]
 rfl
theorem trN_step {l : List Int} {i : Int} (h0 : 0 <= i) (h1 : 0 < i) : trN l i.toNat = if ith l (i - 1) = 0 then trN l (i - 1).toNat else i.toNat := by
 obtain ⟨n, rfl⟩ : ∃ n : Nat, i = n + 1 := ⟨(i - 1).toNat, by omega⟩
 have e1 : ((n : Int) + 1).toNat = n + 1 := by omega
 have e2 : ((n : Int) + 1 - 1) = n := by omega
 rw [e1, e2, Int.toNat_natCast, trN]
theorem ith_drop {l : List Int} {i : Int} (h0 : 0 <= i) (h1 : i < l.length) : l.drop i.toNat = ith l i :: l.drop (i + 1).toNat := by
 have h : i.toNat < l.length := by omega
 rw [List.drop_eq_getElem_cons h]
 unfold ith
 rw [List.getD_eq_getElem?_getD, List.getElem?_eq_getElem h, show (i + 1).toNat = i.toNat + 1 by omega]
 rfl
theorem cmpL_step {a b : List Int} {i : Int} (h0 : 0 <= i) (h1 : i < a.length) (h2 : i < b.length) : cmpL (a.drop i.toNat) (b.drop i.toNat) = if cmpI (ith a i) (ith b i) = 0 then cmpL (a.drop (i + 1).toNat) (b.drop (i + 1).toNat) else cmpI (ith a i) (ith b i) := by
 rw [ith_drop h0 h1, ith_drop h0 h2, cmpL]
theorem cmpL_more {a b : List Int} {i : Int} (h0 : 0 <= i) (h1 : i < a.length) (h2 : ¬ i < b.length) : cmpL (a.drop i.toNat) (b.drop i.toNat) = 1 := by
 rw [ith_drop h0 h1, (List.drop_eq_nil_of_le (by omega) : b.drop i.toNat = [])]
 rfl
theorem cmpL_end {a b : List Int} {i : Int} (h0 : 0 <= i) (h1 : ¬ i < a.length) (h2 : i <= b.length) (h3 : i <= a.length) : cmpL (a.drop i.toNat) (b.drop i.toNat) = if (a.length : Int) < b.length then -1 else 0 := by
 rw [(List.drop_eq_nil_of_le (by omega) : a.drop i.toNat = [])]
 by_cases h : (a.length : Int) < b.length
 ·rw [if_pos h, ith_drop h0 (by omega)]
  rfl
 ·rw [if_neg h, (List.drop_eq_nil_of_le (by omega) : b.drop i.toNat = [])]
  rfl
theorem orL_step {l : List Int} {i : Int} (h0 : 0 <= i) (h1 : i < l.length) : orL (l.drop i.toNat) = if ith l i = 0 then orL (l.drop (i + 1).toNat) else ith l i := by
 rw [ith_drop h0 h1, orL]
end Go.Proofs.YtmladpbadglecaaGreatDoor
