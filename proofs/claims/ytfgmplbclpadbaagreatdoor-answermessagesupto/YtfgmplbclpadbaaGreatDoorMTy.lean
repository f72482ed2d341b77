/-
  The types of this seat's program, as AM needs them.
-/
import Derived.Test.YtfgmplbclpadbaaGreatDoorMBa
import Derived.Test.YtfgmplbclpadbaaGreatDoorMA3
import Derived.KernelRfl
set_option linter.unusedSimpArgs false
set_option linter.unusedVariables false
namespace Go.Proofs.YtfgmplbclpadbaaGreatDoor
open Go.AM
set_option maxRecDepth 100000
theorem zt {p : Prop} (h : p := by simp only [Tr.get_set, reduceIte, Nat.reduceEqDiff, Nat.reduceAdd, ev_tmp] <;> rfl) : p := h
theorem za {p : Prop} (h : p := by (try simp only [Tr.get_set, reduceIte, Nat.reduceEqDiff, Nat.reduceAdd, ev_tmp]) <;> first | rfl | assumption) : p := h
theorem zv {p : Prop} (h : p := by simp only [evs, ev_tmp, Tr.get_set, reduceIte, Nat.reduceEqDiff, Nat.reduceAdd] <;> rfl) : p := h
theorem zp {p : Prop} (h : p := by simp only [evP, ev_tmp, Tr.get_set, reduceIte, Nat.reduceEqDiff, Nat.reduceAdd] <;> rfl) : p := h
theorem zh {p : Prop} (h : p := by simp only [Tr.get_set, reduceIte, Nat.reduceEqDiff, Nat.reduceAdd] <;> rfl) : p := h
theorem zl {p : Prop} (h : p := by simp only [roRows, List.length_cons, List.length_nil, Nat.zero_add, Nat.reduceAdd] <;> rfl) : p := h
theorem zm {p : Prop} (h : p := by simp only [mkE] <;> rfl) : p := h
theorem zo {p : Prop} (h : p := by simp only [Tr.ofList, Nat.zero_add, Nat.reduceAdd] <;> rfl) : p := h
theorem zr {p : Prop} (h : p := by kernel_rfl) : p := h
theorem zd {p : Prop} (h : p := by decide) : p := h
theorem zw {p : Prop} (h : p := by (try simp only [Tr.get_set, reduceIte, Nat.reduceEqDiff, Nat.reduceAdd, ev_tmp]) <;> first | exact congrArg (fun b => some (Value.bool b)) (by assumption) | assumption | rfl) : p := h
theorem zb {p : Prop} (h : p := by simp only [if_true, if_false, Bool.false_eq_true, ev_tmp, Tr.get_set, reduceIte, Nat.reduceEqDiff, Nat.reduceAdd] <;> first | rfl | assumption) : p := h
theorem evs_nil {e : Tr Value} : evs e [] = some [] := rfl
theorem evs_cons {e : Tr Value} {a : Operand} {l : List Operand} {x : Value} {xs : List Value} (h : ev e a = some x) (k : evs e l = some xs) : evs e (a :: l) = some (x :: xs) := by simp only [evs, h, k]
theorem ze {p : Prop} (h : p := by repeat (first | exact evs_nil | refine evs_cons (by (try simp only [ev_tmp, Tr.get_set, reduceIte, Nat.reduceEqDiff, Nat.reduceAdd]) <;> first | assumption | rfl) ?_)) : p := h
theorem hg {p : Prop} (h : p := by (repeat (first | rw [Tr.get_set, if_neg (by omega)])) <;> first | rfl | assumption | (rw [Tr.get_set, if_pos (by omega)]; done) | (rw [Tr.get_set, if_pos (by omega)]; rfl)) : p := h
theorem dd : (∀ {p : Prop} [Decidable p], (decide p = true) = p) /\ (∀ {p : Prop} [Decidable p], decide p = false ↔ ¬p) /\ (∀ {b : Bool}, (!b) = true ↔ b = false) /\ (∀ {b : Bool}, (!b) = false ↔ b = true) /\ (∀ b : Bool, (¬b = true) = (b = false)) /\ (∀ b : Bool, (¬b = false) = (b = true)) /\ (∀ a b : Bool, ((a && b) = true) = (a = true /\ b = true)) /\ (∀ {a b : Int}, ¬a < b ↔ b <= a) /\ (∀ {a b : Int}, ¬a <= b ↔ b < a) := ⟨d1, d2, d3, d4, d5, d6, d7, d8, d9⟩
theorem gn {α : Type} {t : Tr α} {i j : Nat} {x : α} (h : ¬ j = i) : (t.set i x).get j = t.get j := by rw [Tr.get_set, if_neg h]
theorem gp {α : Type} {t : Tr α} {i j : Nat} {x : α} (h : j = i) : (t.set i x).get j = some x := by rw [Tr.get_set, if_pos h]
section
variable {P : Program} {call : Call'} {ops : Array Oper} {o : Oper} {e : Tr Value} {n d : Nat} {K : St -> Prop} {KD : St -> List Inf -> Prop} {rest : List Oper} {v : Value} {x : Operand} {h : AH} {t : Tr AObj} {nx wr : Nat} {acc : List Inf}
theorem oM (k : OpsK P call ops rest ⟨e.set d v, n, h⟩ K) (ho : o.op = .move x := by rfl) (hx : ev e x = some v := by (try simp only [Tr.get_set, reduceIte, Nat.reduceEqDiff, Nat.reduceAdd, ev_tmp]) <;> first | rfl | assumption) (hw : wantedA ops e o = some true := by exact wA_none rfl) (hd : o.dst = some d := by rfl) (hlt : d < n := by decide) : OpsK P call ops (o :: rest) ⟨e, n, h⟩ K := o_step hw hd (x_move ho hx) hlt k
theorem oA (k : OpsK P call ops rest ⟨e.set d v, n, h⟩ K) (ho : o.op = .assign x := by rfl) (hx : ev e x = some v := by (try simp only [Tr.get_set, reduceIte, Nat.reduceEqDiff, Nat.reduceAdd, ev_tmp]) <;> first | rfl | assumption) (hw : wantedA ops e o = some true := by exact wA_none rfl) (hd : o.dst = some d := by rfl) (hlt : d < n := by decide) : OpsK P call ops (o :: rest) ⟨e, n, h⟩ K := o_step hw hd (x_assign ho hx) hlt k
theorem dS {j s : Nat} {q w : Bool} (k : DrawK P call ops rest ⟨e.set d undef, n, h⟩ (acc ++ [Inf.skip]) KD) (hg : o.guard = some (j, w) := by rfl) (hs : (ops[j]?).bind (·.dst) = some s := by rfl) (he : e.get s = some (.bool q) := by (try simp only [Tr.get_set, reduceIte, Nat.reduceEqDiff, Nat.reduceAdd, ev_tmp]) <;> first | exact congrArg (fun b => some (Value.bool b)) (by assumption) | assumption | rfl) (hq : (q == w) = false := by rfl) (hd : o.dst = some d := by rfl) (hlt : d < n := by decide) : DrawK P call ops (o :: rest) ⟨e, n, h⟩ acc KD := d_skip (wA_off hg hs he hq) hd hlt k
theorem oS {j s : Nat} {q w : Bool} (k : OpsK P call ops rest ⟨e.set d undef, n, h⟩ K) (hg : o.guard = some (j, w) := by rfl) (hs : (ops[j]?).bind (·.dst) = some s := by rfl) (he : e.get s = some (.bool q) := by (try simp only [Tr.get_set, reduceIte, Nat.reduceEqDiff, Nat.reduceAdd, ev_tmp]) <;> first | exact congrArg (fun b => some (Value.bool b)) (by assumption) | assumption | rfl) (hq : (q == w) = false := by rfl) (hd : o.dst = some d := by rfl) (hlt : d < n := by decide) : OpsK P call ops (o :: rest) ⟨e, n, h⟩ K := o_skip (wA_off hg hs he hq) hd hlt k
theorem dM (k : DrawK P call ops rest ⟨e.set d v, n, ⟨t, nx, min wr BIG⟩⟩ (acc ++ [infOf e t nx o.op t nx BIG]) KD) (ho : o.op = .move x := by rfl) (hx : ev e x = some v := by (try simp only [Tr.get_set, reduceIte, Nat.reduceEqDiff, Nat.reduceAdd, ev_tmp]) <;> first | rfl | assumption) (hw : wantedA ops e o = some true := by exact wA_none rfl) (hd : o.dst = some d := by rfl) (hlt : d < n := by decide) : DrawK P call ops (o :: rest) ⟨e, n, ⟨t, nx, wr⟩⟩ acc KD := d_step hw hd (x_move ho hx) hlt k
end
set_option linter.defProp false
def u3 := Tryz.underlying3
def u5 := Tryz.underlying5
def u9 := Tryz.underlying9
def u22 := Tryz.underlying22
def u23 := Tryz.underlying23
def u25 := Tryz.underlying25
def u27 := Tryz.underlying27
def u29 := Tryz.underlying29
def u31 := Tryz.underlying31
def u33 := Tryz.underlying33
def u35 := Tryz.underlying35
def u42 := Tryz.underlying42
def u55 := Tryz.underlying55
def u60 := Tryz.underlying60
theorem ow {p : Prop} (h : p := by omega) : p := h
theorem T.s3 : szOf Tryz.prog 3 = some 1 := by kernel_rfl
theorem T.g3 : aggOf Tryz.prog 3 = some false := by kernel_rfl
theorem T.z3 : (Tryz.prog.info? 3).bind (·.zero) = some (.int .i64 0) := by kernel_rfl
theorem T.g4 : aggOf Tryz.prog 4 = some false := by kernel_rfl
theorem T.s5 : szOf Tryz.prog 5 = some 1 := by kernel_rfl
theorem T.g5 : aggOf Tryz.prog 5 = some false := by kernel_rfl
theorem T.z5 : (Tryz.prog.info? 5).bind (·.zero) = some (.int .u8 0) := by kernel_rfl
theorem T.s9 : szOf Tryz.prog 9 = some 1 := by kernel_rfl
theorem T.g9 : aggOf Tryz.prog 9 = some false := by kernel_rfl
theorem T.z9 : (Tryz.prog.info? 9).bind (·.zero) = some (.string .empty) := by kernel_rfl
theorem T.g22 : aggOf Tryz.prog 22 = some false := by kernel_rfl
theorem T.i22 : TyI Tryz.prog 3 1 8 := ⟨_, Tryz.type3, rfl, rfl, rfl⟩
theorem T.z22 : (Tryz.prog.info? 22).bind (·.zero) = some (.slice none 0 0) := by kernel_rfl
theorem T.g23 : aggOf Tryz.prog 23 = some false := by kernel_rfl
theorem T.i23 : TyI Tryz.prog 5 1 1 := ⟨_, Tryz.type5, rfl, rfl, rfl⟩
theorem T.s25 : szOf Tryz.prog 25 = some 16 := by kernel_rfl
theorem T.g25 : aggOf Tryz.prog 25 = some true := by kernel_rfl
theorem T.z25 : (Tryz.prog.info? 25).bind (·.zero) = some (.agg ⟨[.int .u8 0, .int .u8 0, .int .u8 0, .int .u8 0, .int .u8 0, .int .u8 0, .int .u8 0, .int .u8 0, .int .u8 0, .int .u8 0, .int .u8 0, .int .u8 0, .int .u8 0, .int .u8 0, .int .u8 0, .int .u8 0]⟩) := by kernel_rfl
theorem T.s27 : szOf Tryz.prog 27 = some 3 := by kernel_rfl
theorem T.g27 : aggOf Tryz.prog 27 = some true := by kernel_rfl
theorem T.z27 : (Tryz.prog.info? 27).bind (·.zero) = some (.agg ⟨[.int .i64 0, .int .i64 0, .int .i64 0]⟩) := by kernel_rfl
theorem T.s29 : szOf Tryz.prog 29 = some 21 := by kernel_rfl
theorem T.g29 : aggOf Tryz.prog 29 = some true := by kernel_rfl
theorem T.z29 : (Tryz.prog.info? 29).bind (·.zero) = some (.agg ⟨[.int .u8 0, .int .u8 0, .int .u8 0, .int .u8 0, .int .u8 0, .int .u8 0, .int .u8 0, .int .u8 0, .int .u8 0, .int .u8 0, .int .u8 0, .int .u8 0, .int .u8 0, .int .u8 0, .int .u8 0, .int .u8 0, .string .empty, .int .i64 0, .int .i64 0, .int .i64 0, .int .i64 0]⟩) := by kernel_rfl
theorem T.s31 : szOf Tryz.prog 31 = some 3 := by kernel_rfl
theorem T.z31 : (Tryz.prog.info? 31).bind (·.zero) = some (.agg ⟨[.int .i64 0, .int .i64 0, .int .i64 0]⟩) := by kernel_rfl
theorem T.s33 : szOf Tryz.prog 33 = some 22 := by kernel_rfl
theorem T.g33 : aggOf Tryz.prog 33 = some true := by kernel_rfl
theorem T.z33 : (Tryz.prog.info? 33).bind (·.zero) = some (.agg ⟨[.int .i64 0, .string .empty, .int .i64 0, .int .i64 0, .int .i64 0, .int .i64 0, .int .u8 0, .int .u8 0, .int .u8 0, .int .u8 0, .int .u8 0, .int .u8 0, .int .u8 0, .int .u8 0, .int .u8 0, .int .u8 0, .int .u8 0, .int .u8 0, .int .u8 0, .int .u8 0, .int .u8 0, .int .u8 0]⟩) := by kernel_rfl
theorem T.s35 : szOf Tryz.prog 35 = some 46 := by kernel_rfl
theorem T.g35 : aggOf Tryz.prog 35 = some true := by kernel_rfl
def T.K35 : List Lk := [.int .i64, .int .i64, .int .u8, .int .u8, .int .u8, .int .u8, .int .u8, .int .u8, .int .u8, .int .u8, .int .u8, .int .u8, .int .u8, .int .u8, .int .u8, .int .u8, .int .u8, .int .u8, .str, .int .i64, .int .i64, .int .i64, .int .i64, .int .i64, .str, .int .i64, .int .i64, .int .i64, .int .i64, .int .u8, .int .u8, .int .u8, .int .u8, .int .u8, .int .u8, .int .u8, .int .u8, .int .u8, .int .u8, .int .u8, .int .u8, .int .u8, .int .u8, .int .u8, .int .u8, .str]
theorem T.f35 : flatTy Tryz.prog 20 35 = some T.K35 := by kernel_rfl
theorem T.q35 : Tryz.prog.eqGuardType Tryz.prog.depth 35 = false := by kernel_rfl
theorem T.z35 : (Tryz.prog.info? 35).bind (·.zero) = some (.agg ⟨[.int .i64 0, .int .i64 0, .int .u8 0, .int .u8 0, .int .u8 0, .int .u8 0, .int .u8 0, .int .u8 0, .int .u8 0, .int .u8 0, .int .u8 0, .int .u8 0, .int .u8 0, .int .u8 0, .int .u8 0, .int .u8 0, .int .u8 0, .int .u8 0, .string .empty, .int .i64 0, .int .i64 0, .int .i64 0, .int .i64 0, .int .i64 0, .string .empty, .int .i64 0, .int .i64 0, .int .i64 0, .int .i64 0, .int .u8 0, .int .u8 0, .int .u8 0, .int .u8 0, .int .u8 0, .int .u8 0, .int .u8 0, .int .u8 0, .int .u8 0, .int .u8 0, .int .u8 0, .int .u8 0, .int .u8 0, .int .u8 0, .int .u8 0, .int .u8 0, .string .empty]⟩) := by kernel_rfl
theorem T.i42 : TyI Tryz.prog 25 16 16 := ⟨_, Tryz.type25, rfl, rfl, rfl⟩
theorem T.s44 : szOf Tryz.prog 44 = some 1 := by kernel_rfl
theorem T.g44 : aggOf Tryz.prog 44 = some false := by kernel_rfl
theorem T.z44 : (Tryz.prog.info? 44).bind (·.zero) = some (.int .i64 0) := by kernel_rfl
theorem T.i55 : TyI Tryz.prog 9 1 16 := ⟨_, Tryz.type9, rfl, rfl, rfl⟩
theorem T.s59 : szOf Tryz.prog 59 = some 1 := by kernel_rfl
theorem T.g59 : aggOf Tryz.prog 59 = some false := by kernel_rfl
theorem T.z59 : (Tryz.prog.info? 59).bind (·.zero) = some (.nilFunc) := by kernel_rfl
theorem T.s64 : szOf Tryz.prog 64 = some 1 := by kernel_rfl
theorem T.g64 : aggOf Tryz.prog 64 = some false := by kernel_rfl
theorem T.z64 : (Tryz.prog.info? 64).bind (·.zero) = some (.pointer none) := by kernel_rfl
end Go.Proofs.YtfgmplbclpadbaaGreatDoor
namespace Go.Proofs.YtfgmplbclpadbaaGreatDoor
open Go Go.AM
def inR (n : Int) : Prop := -9223372036854775808 <= n /\ n <= 9223372036854775807
instance (n : Int) : Decidable (inR n) := by unfold inR; infer_instance
def around (n m : Int) : Int := (if n < 0 then -(n + 1) else n) % m
theorem wr1 {i : Int} (h0 : 0 <= i) (h1 : i < 4611686018427387904) : IntKind.i64.wrap (i + 1) = i + 1 := IntWalk.i64_in _ (by omega)
theorem take_next {α : Type} {l : List α} {i : Int} (h0 : 0 <= i) (h1 : i < l.length) : l.take (i + 1).toNat = l.take i.toNat ++ [l[i.toNat]'(by omega)] := by
 rw [show (i + 1).toNat = i.toNat + 1 by omega, List.take_succ_eq_append_getElem (by omega)]
theorem take_end {α : Type} {l : List α} {i : Int} (h1 : l.length <= i) : l.take i.toNat = l := List.take_of_length_le (by omega)
theorem ith_eq {l : List Int} {i : Int} (h0 : 0 <= i) (h1 : i < l.length) : ith l i = l[i.toNat]'(by omega) := by
 unfold ith; rw [List.getD_eq_getElem?_getD, List.getElem?_eq_getElem (by omega)]; rfl
theorem around_eq {n m x : Int} (hn : inR n) (hx : n < 0 /\ x = (IntKind.i64.wrap (0 - IntKind.i64.wrap (n + 1))).tmod m \/ 0 <= n /\ x = n.tmod m) : x = around n m := by
 unfold inR at hn
 unfold around
 rcases hx with ⟨h, rfl⟩ | ⟨h, rfl⟩
 ·rw [IntWalk.i64_in (n + 1) (by omega), IntWalk.i64_in _ (by omega), if_pos h, Int.tmod_eq_emod_of_nonneg (by omega)]
  congr 1; omega
 ·rw [if_neg (by omega), Int.tmod_eq_emod_of_nonneg h]
theorem around_lo {n m : Int} (hm : 0 < m) : 0 <= around n m := Int.emod_nonneg _ (by omega)
theorem around_hi {n m : Int} (hm : 0 < m) : around n m < m := Int.emod_lt_of_pos _ hm
def flipB (f d : Int) : Int := if f = 0 then d else 255 - d
theorem flipB_lt {f d : Int} (h : 0 <= d /\ d < 256) : 0 <= flipB f d /\ flipB f d < 256 := by unfold flipB; split <;> omega
theorem xor8_all : ∀ a : Fin 256, IntKind.u8.wrap ((BitVec.ofInt 8 (a.val : Int) ^^^ BitVec.ofInt 8 255).toNat : Int) = 255 - (a.val : Int) := by decide +kernel
theorem xor8_0 : ∀ a : Fin 256, IntKind.u8.wrap ((BitVec.ofInt 8 (a.val : Int) ^^^ BitVec.ofInt 8 0).toNat : Int) = (a.val : Int) := by decide +kernel
section
variable {P : Program} {t : TypeId} {xo yo : Operand} {a b m : Int}
theorem b_xor8 (ha : 0 <= a /\ a < 256) (hb : b = 0 \/ b = 255) : binV P .xor t xo yo (.int .u8 a) (.int .u8 b) = some (.int .u8 (flipB b a)) := by
 have e : binV P .xor t xo yo (.int .u8 a) (.int .u8 b) = some (.int .u8 (IntKind.u8.wrap ((BitVec.ofInt 8 a ^^^ BitVec.ofInt 8 b).toNat : Int))) := rfl
 have hn : ((⟨a.toNat, by omega⟩ : Fin 256).val : Int) = a := by simp only; omega
 rw [e]
 unfold flipB
 rcases hb with rfl | rfl
 ·have := xor8_0 ⟨a.toNat, by omega⟩
  rw [hn] at this
  rw [this, if_pos rfl]
 ·have := xor8_all ⟨a.toNat, by omega⟩
  rw [hn] at this
  rw [this, if_neg (by decide)]
theorem wrap64 {n : Int} : IntKind.u64.wrap n = n % 18446744073709551616 := by
 unfold IntKind.wrap
 simp only [IntKind.signed, Bool.false_and, Bool.false_eq_true, if_false, IntKind.bits]
 rfl
theorem b_shl8 (h0 : 0 <= m) (h1 : m < 72057594037927936) : binV P .shl t xo yo (.int .u64 m) (.int .u64 8) = some (.int .u64 (256 * m)) := by
 have e : binV P .shl t xo yo (.int .u64 m) (.int .u64 8) = some (.int .u64 (IntKind.u64.wrap (m * 2 ^ 8))) := rfl
 rw [e, wrap64]
 congr 2
 omega
theorem ofInt64 {a : Int} (h0 : 0 <= a) (h1 : a < 18446744073709551616) : (BitVec.ofInt 64 a).toNat = a.toNat := by
 rw [BitVec.toNat_ofInt]
 omega
theorem b_or8 (h0 : 0 <= m) (h1 : m < 72057594037927936) (ha : 0 <= a /\ a < 256) : binV P .or t xo yo (.int .u64 (256 * m)) (.int .u64 a) = some (.int .u64 (256 * m + a)) := by
 have e : binV P .or t xo yo (.int .u64 (256 * m)) (.int .u64 a) = some (.int .u64 (IntKind.u64.wrap ((BitVec.ofInt 64 (256 * m) ||| BitVec.ofInt 64 a).toNat : Int))) := rfl
 rw [e, BitVec.toNat_or, ofInt64 (by omega) (by omega), ofInt64 (by omega) (by omega), wrap64]
 have h := Nat.two_pow_add_eq_or_of_lt (i := 8) (b := a.toNat) (by omega) m.toNat
 have e1 : (256 * m).toNat = 2 ^ 8 * m.toNat := by omega
 rw [e1, <-h]
 congr 2
 omega
theorem x_not64 {call : Call'} {e : Tr Value} {h : AH} {o : Oper} {T : TypeId} {x : Operand} {n : Int} (ho : o.op = .unOp .xor T x) (hx : ev e x = some (.int .u64 n)) (h0 : 0 <= n) (h1 : n < 18446744073709551616) : doOp P call e h o = some (.int .u64 (18446744073709551615 - n), h) := by
 rw [do_op (by rw [ho]; simp), ho]
 have e : quick P (Op.unary .xor (.int .u64 n)) = some (.int .u64 (IntKind.u64.wrap ((BitVec.ofInt 64 18446744073709551615 ^^^ BitVec.ofInt 64 n).toNat : Int))) := rfl
 have e2 : BitVec.ofInt 64 18446744073709551615 = BitVec.allOnes 64 := by decide
 have e3 : (BitVec.ofInt 64 18446744073709551615 ^^^ BitVec.ofInt 64 n).toNat = 18446744073709551615 - n.toNat := by
  rw [e2, BitVec.xor_comm, BitVec.xor_allOnes, BitVec.toNat_not, ofInt64 h0 h1]
 rw [e3] at e
 have e4 : IntKind.u64.wrap ((18446744073709551615 - n.toNat : Nat) : Int) = 18446744073709551615 - n := by rw [wrap64]; omega
 rw [e4] at e
 simp only [aop, hx, free1, free0, if_true, e]
 rfl
end
theorem snoc_ind {p : List Int -> Prop} (h0 : p []) (h1 : ∀ l d, p l -> p (l ++ [d])) (l : List Int) : p l := by
 have : ∀ r : List Int, p r.reverse := by
  intro r
  induction r with
  | nil => exact h0
  | cons d r ih => rw [List.reverse_cons]; exact h1 _ _ ih
 have := this l.reverse
 rwa [List.reverse_reverse] at this
def digs (m : Nat) : List Int := if h : m = 0 then [] else ((m % 256 : Nat) : Int) :: digs (m / 256)
termination_by m
decreasing_by omega
theorem digs_0 : digs 0 = [] := by rw [digs]; simp
theorem digs_pos {m : Nat} (h : 0 < m) : digs m = ((m % 256 : Nat) : Int) :: digs (m / 256) := by rw [digs]; rw [dif_neg (by omega)]
theorem digs_byt : ∀ (n m : Nat), m <= n -> Byt (digs m)
 | n, 0, _ => by rw [digs_0]; exact byt_nil
 | 0, m + 1, h => by omega
 | n + 1, m + 1, h => by
  rw [digs_pos (by omega)]
  intro x hx
  rcases List.mem_cons.1 hx with rfl | hx
  ·omega
  ·exact digs_byt n _ (by omega) x hx
theorem digs_len : ∀ (k m : Nat), m < 256 ^ k -> (digs m).length <= k
 | k, 0, _ => by rw [digs_0]; exact Nat.zero_le _
 | 0, m + 1, h => by simp at h
 | k + 1, m + 1, h => by
  rw [digs_pos (by omega), List.length_cons]
  have : (m + 1) / 256 < 256 ^ k := by
   rw [Nat.div_lt_iff_lt_mul (by decide)]
   rw [Nat.pow_succ] at h
   exact h
  have := digs_len k _ this
  omega
def num (ds : List Int) : Int := ds.foldl (fun m d => 256 * m + d) 0
theorem num_snoc (ds : List Int) (d : Int) : num (ds ++ [d]) = 256 * num ds + d := by unfold num; rw [List.foldl_append]; rfl
theorem num_nonneg {ds : List Int} (h : Byt ds) : 0 <= num ds := by
 induction ds using snoc_ind with
 | h0 => exact Int.le_refl _
 | h1 l d ih =>
  have h1 := ih fun x hx => h x (List.mem_append_left _ hx)
  have h2 := h d (by simp)
  rw [num_snoc]; omega
theorem num_lt : ∀ {k : Nat} {ds : List Int}, Byt ds -> ds.length <= k -> num ds < (256 : Int) ^ k := by
 intro k ds
 induction ds using snoc_ind generalizing k with
 | h0 => intro _ _; exact Int.pow_pos (by decide)
 | h1 l d ih =>
  intro h hk
  rw [List.length_append, List.length_cons, List.length_nil] at hk
  have h1 := ih (k := k - 1) (fun x hx => h x (List.mem_append_left _ hx)) (by omega)
  have h2 := h d (by simp)
  rw [num_snoc]
  obtain ⟨j, rfl⟩ : ∃ j, k = j + 1 := ⟨k - 1, by omega⟩
  rw [Nat.add_sub_cancel] at h1
  rw [Int.pow_succ]
  omega
theorem digs_last : ∀ (n m : Nat), m <= n -> (digs m).getLast? ≠ some 0
 | n, 0, _ => by rw [digs_0]; simp
 | 0, m + 1, h => by omega
 | n + 1, m + 1, h => by
  rw [digs_pos (by omega)]
  rcases Nat.eq_zero_or_pos ((m + 1) / 256) with hq | hq
  ·rw [hq, digs_0]
   simp only [List.getLast?_singleton]
   intro e
   have := Option.some.inj e
   omega
  ·have := digs_last n ((m + 1) / 256) (by omega)
   have hne : digs ((m + 1) / 256) ≠ [] := by rw [digs_pos hq]; simp
   match hd : digs ((m + 1) / 256), hne, this with
   | x :: r, _, this => rw [List.getLast?_cons_cons]; exact this
def encI (n : Int) : List Int := if n < 0 then (127 - (digs (-1 - n).toNat).length) :: (digs (-1 - n).toNat).reverse.map (255 - ·) else (128 + (digs n.toNat).length) :: (digs n.toNat).reverse
def getI (b : List Int) : Int × Int × Int :=
 match b with
 | [] => (0, 0, 3)
 | h :: t =>
  if h < 119 \/ 136 < h then (0, 0, 2) else
  let f := if h < 128 then 255 else 0
  let k := flipB f h - 128
  if (t.length : Int) < k then (0, 0, 3) else
  let ds := (t.take k.toNat).map (flipB f)
  if ds.head? = some 0 \/ 9223372036854775807 < num ds then (0, 0, 2) else (if h < 128 then -1 - num ds else num ds, k + 1, 0)
end Go.Proofs.YtfgmplbclpadbaaGreatDoor
namespace Go.Proofs.YtfgmplbclpadbaaGreatDoor
open Go Go.AM
section
variable {P : Program} {call : Call'} {e : Tr Value} {h : AH} {o : Oper} {S T t : TypeId} {x xo yo : Operand} {a m : Int}
theorem x_conv8i {u : TypeDesc} (ho : o.op = .convert S T x) (hx : ev e x = some (.int .u8 a)) (hs : P.underlying S = some u) (hd : P.underlying T = some (.int .i64)) (ha : 0 <= a /\ a < 256) : doOp P call e h o = some (.int .i64 a, h) := by
 have := x_convI (call := call) (h := h) ho hx hs hd
 rwa [IntWalk.i64_in a (by omega)] at this
theorem x_conv8u {u : TypeDesc} (ho : o.op = .convert S T x) (hx : ev e x = some (.int .u8 a)) (hs : P.underlying S = some u) (hd : P.underlying T = some (.int .u64)) (ha : 0 <= a /\ a < 256) : doOp P call e h o = some (.int .u64 a, h) := by
 have := x_convI (call := call) (h := h) ho hx hs hd
 rwa [wrap64, show a % 18446744073709551616 = a by omega] at this
theorem x_conv64 {u : TypeDesc} (ho : o.op = .convert S T x) (hx : ev e x = some (.int .u64 m)) (hs : P.underlying S = some u) (hd : P.underlying T = some (.int .i64)) : doOp P call e h o = some (.int .i64 (IntKind.i64.wrap m), h) := x_convI ho hx hs hd
theorem b_addR {b : Int} (h : -9223372036854775808 <= a + b /\ a + b <= 9223372036854775807) : binV P .add t xo yo (.int .i64 a) (.int .i64 b) = some (.int .i64 (a + b)) := by
 rw [b_add, IntWalk.i64_in _ (by omega)]
theorem b_subR {b : Int} (h : -9223372036854775808 <= a - b /\ a - b <= 9223372036854775807) : binV P .sub t xo yo (.int .i64 a) (.int .i64 b) = some (.int .i64 (a - b)) := by
 rw [b_sub, IntWalk.i64_in _ (by omega)]
theorem x_lenE {c : Call} {el : TypeId} {ad : Option Addr} {len cap : Nat} {n : Int} (hn : (len : Int) = n) (ho : o.op = .call c) (hc : c.callee = .builtin .len) (ha : evs e c.args.toList = some [.slice ad len cap]) (ht : c.argTypes[0]? = some t) (hu : P.underlying t = some (.slice el)) : doOp P call e h o = some (.int .i64 n, h) := by
 subst hn; exact x_len ho hc ha ht hu
theorem y_sliceE {call : Call'} {e : Tr Value} {h : AH} {o : Oper} {T el : TypeId} {x lo hi : Operand} {id off off' n n' sz q q' : Nat} {i j : Int} (hoff : off + i.toNat * sz = off') (hlen : j.toNat - i.toNat = n') (hq : n + q - j.toNat = q') (ho : o.op = .slice T x (some lo) (some hi) none) (hx : ev e x = some (.slice (some ⟨id, off, none⟩) n (n + sz + 4294967296 * q))) (hl : ev e lo = some (.int .i64 i)) (hh : ev e hi = some (.int .i64 j)) (hu : P.underlying T = some (.slice el)) (hz : szOf P el = some sz) (h0 : 0 < sz) (hi0 : 0 <= i) (hij : i <= j) (hi1 : j <= n + q) (hM : sz < 4294967296 := by decide) :
  doOp P call e h o = some (.slice (some ⟨id, off', none⟩) n' (n' + (sz + 4294967296 * q')), h) := by
 subst hoff; subst hlen; subst hq
 exact y_sliceLH ho hx hl hh hu hz h0 hi0 hij hi1 hM
theorem b_sub128 (ha : 0 <= a /\ a < 256) : binV P .sub t xo yo (.int .i64 a) (.int .i64 128) = some (.int .i64 (a - 128)) := by
 rw [b_sub, IntWalk.i64_in _ (by omega)]
theorem b_shr63 : binV P .shr t xo yo (.int .u64 m) (.int .u64 63) = some (.int .u64 (m / 9223372036854775808)) := by
 rw [b_shr (by decide)]
 have : m.fdiv (2 ^ (min (63 : Int).toNat IntKind.u64.bits)) = m / 9223372036854775808 := by
  show m.fdiv (9223372036854775808) = _
  exact Int.fdiv_eq_ediv_of_nonneg _ (by decide)
 rw [this]
end
theorem b_or8n {P : Program} {t : TypeId} {xo yo : Operand} {a m r : Int} (h0 : 0 <= m) (h1 : m < 72057594037927936) (ha : 0 <= a /\ a < 256) (hr : 256 * m + a = r) : binV P .or t xo yo (.int .u64 (256 * m)) (.int .u64 a) = some (.int .u64 r) := by
 subst hr; exact b_or8 h0 h1 ha
theorem wrapNeg {n : Int} (h0 : 0 <= n) (h1 : n <= 9223372036854775807) : IntKind.i64.wrap (18446744073709551615 - n) = -1 - n := by
 have e : IntKind.i64.wrap (18446744073709551615 - n) = IntKind.i64.wrap (-1 - n) := by
  unfold IntKind.wrap
  have : (18446744073709551615 - n) % 2 ^ IntKind.i64.bits = (-1 - n) % 2 ^ IntKind.i64.bits := by
   show (18446744073709551615 - n) % 18446744073709551616 = (-1 - n) % 18446744073709551616
   omega
  simp only [this]
 rw [e, IntWalk.i64_in _ (by omega)]
def dsL (f k : Int) (l : List Int) : List Int := ((l.drop 1).take k.toNat).map (flipB f)
def fl (l : List Int) : Int := if ith l 0 < 128 then 255 else 0
section
variable {l ds : List Int} {f k i : Int}
theorem dsL_byt (hB : Byt l) : Byt (dsL f k l) := fun x hx => by
 obtain ⟨y, hy, rfl⟩ := List.mem_map.1 hx
 exact flipB_lt (hB y (List.mem_of_mem_drop (List.mem_of_mem_take hy)))
theorem dsL_len (h0 : 0 <= k) (h1 : k < l.length) : (dsL f k l).length = k.toNat := by
 unfold dsL
 rw [List.length_map, List.length_take, List.length_drop]
 omega
theorem ith_drop1 (h0 : 0 <= i) : ith (l.drop 1) i = ith l (1 + i) := by
 unfold ith
 rw [List.getD_eq_getElem?_getD, List.getD_eq_getElem?_getD, List.getElem?_drop, show (1 + i).toNat = 1 + i.toNat by omega]
theorem dsL_at (h0 : 0 <= i) (h1 : i < k) (h2 : k < l.length) : ith (dsL f k l) i = flipB f (ith (l.drop 1) i) := by
 have e1 : i.toNat < ((l.drop 1).take k.toNat).length := by rw [List.length_take, List.length_drop]; omega
 unfold dsL ith
 rw [List.getD_eq_getElem?_getD, List.getElem?_map, List.getElem?_eq_getElem e1, List.getD_eq_getElem?_getD]
 rw [List.getElem_take, List.getElem?_eq_getElem (by rw [List.length_take] at e1; omega)]
 rfl
theorem num_next (h0 : 0 <= i) (h1 : i < ds.length) : num (ds.take (i + 1).toNat) = 256 * num (ds.take i.toNat) + ith ds i := by
 have e : (i + 1).toNat = i.toNat + 1 := by omega
 have hi : i.toNat < ds.length := by omega
 rw [e, List.take_add_one, List.getElem?_eq_getElem hi, Option.toList_some, num_snoc]
 unfold ith
 rw [List.getD_eq_getElem?_getD, List.getElem?_eq_getElem hi]
 rfl
theorem num_lt7 (hB : Byt ds) (h : i <= 7) : num (ds.take i.toNat) < 72057594037927936 := by
 have := num_lt (k := 7) (byt_take hB i.toNat) (by rw [List.length_take]; omega)
 simpa using this
theorem num_lt8 (hB : Byt ds) (h : ds.length <= 8) : num ds < 18446744073709551616 := by
 have := num_lt (k := 8) hB h
 simpa using this
theorem getI_more0 (h : (l.length : Int) = 0) : getI l = (0, 0, 3) := by
 have : l = [] := List.eq_nil_of_length_eq_zero (by omega)
 subst this; rfl
theorem getI_eq (hl : 0 < l.length) : getI l = if ith l 0 < 119 \/ 136 < ith l 0 then (0, 0, 2) else if (l.length : Int) - 1 < flipB (fl l) (ith l 0) - 128 then (0, 0, 3) else
  if (dsL (fl l) (flipB (fl l) (ith l 0) - 128) l).head? = some 0 \/ 9223372036854775807 < num (dsL (fl l) (flipB (fl l) (ith l 0) - 128) l) then (0, 0, 2) else
  (if ith l 0 < 128 then -1 - num (dsL (fl l) (flipB (fl l) (ith l 0) - 128) l) else num (dsL (fl l) (flipB (fl l) (ith l 0) - 128) l), flipB (fl l) (ith l 0) - 128 + 1, 0) := by
 match l, hl with
 | x :: r, _ =>
  have e : ((x :: r).length : Int) - 1 = r.length := by rw [List.length_cons]; omega
  rw [e]
  rfl
theorem fl_rng (hB : Byt l) (hl : 0 < l.length) : 128 <= flipB (fl l) (ith l 0) /\ flipB (fl l) (ith l 0) < 256 := by
 have hb := byt_ith hB (i := 0) (by omega) (by omega)
 unfold fl flipB
 split <;> simp <;> omega
theorem fl_or : fl l = 0 \/ fl l = 255 := by unfold fl; split <;> simp
theorem fl_bad (hB : Byt l) (hl : 0 < l.length) : (ith l 0 < 119 \/ 136 < ith l 0) ↔ 8 < flipB (fl l) (ith l 0) - 128 := by
 have hb := byt_ith hB (i := 0) (by omega) (by omega)
 unfold fl flipB
 split <;> simp <;> omega
theorem dsL_head (h0 : 0 < k) (h1 : k < l.length) : (dsL f k l).head? = some (flipB f (ith l 1)) := by
 have h2 : 0 < (dsL f k l).length := by rw [dsL_len (by omega) h1]; omega
 have h3 := dsL_at (f := f) (i := 0) (by omega) h0 h1
 rw [ith_drop1 (by omega)] at h3
 rw [List.head?_eq_getElem?, List.getElem?_eq_getElem h2]
 unfold ith at h3
 rw [List.getD_eq_getElem?_getD, Int.toNat_zero, List.getElem?_eq_getElem h2] at h3
 exact congrArg some h3
theorem dsL_nil (h0 : k <= 0) : dsL f k l = [] := by
 unfold dsL
 rw [show k.toNat = 0 by omega]; rfl
section
variable (hB : Byt l) (hl : 0 < l.length) (hf : fl l = f)
include hB hl hf
theorem gi_bad (h8 : 8 < flipB f (ith l 0) - 128) : getI l = (0, 0, 2) := by
 subst hf
 rw [getI_eq hl, if_pos ((fl_bad hB hl).2 h8)]
theorem gi_more (h8 : flipB f (ith l 0) - 128 <= 8) (hm : (l.length : Int) <= flipB f (ith l 0) - 128) : getI l = (0, 0, 3) := by
 subst hf
 rw [getI_eq hl, if_neg (fun q => by have := (fl_bad hB hl).1 q; omega), if_pos (by omega)]
theorem gi_zero (h8 : flipB f (ith l 0) - 128 <= 8) (hm : flipB f (ith l 0) - 128 < l.length) (h0 : 0 < flipB f (ith l 0) - 128) (hz : flipB f (ith l 1) = 0) : getI l = (0, 0, 2) := by
 subst hf
 rw [getI_eq hl, if_neg (fun q => by have := (fl_bad hB hl).1 q; omega), if_neg (by omega), if_pos (.inl (by rw [dsL_head h0 hm, hz]))]
theorem gi_big (h8 : flipB f (ith l 0) - 128 <= 8) (hm : flipB f (ith l 0) - 128 < l.length) (hb : 9223372036854775807 < num (dsL f (flipB f (ith l 0) - 128) l)) : getI l = (0, 0, 2) := by
 subst hf
 rw [getI_eq hl, if_neg (fun q => by have := (fl_bad hB hl).1 q; omega), if_neg (by omega), if_pos (.inr hb)]
theorem gi_ok (h8 : flipB f (ith l 0) - 128 <= 8) (hm : flipB f (ith l 0) - 128 < l.length) (hz : flipB f (ith l 0) - 128 <= 0 \/ flipB f (ith l 1) ≠ 0) (hb : num (dsL f (flipB f (ith l 0) - 128) l) <= 9223372036854775807) :
  getI l = (if ith l 0 < 128 then -1 - num (dsL f (flipB f (ith l 0) - 128) l) else num (dsL f (flipB f (ith l 0) - 128) l), flipB f (ith l 0) - 128 + 1, 0) := by
 subst hf
 rw [getI_eq hl, if_neg (fun q => by have := (fl_bad hB hl).1 q; omega), if_neg (by omega), if_neg]
 rintro (q | q)
 ·by_cases h0 : 0 < flipB (fl l) (ith l 0) - 128
  ·rw [dsL_head h0 hm] at q
   have := Option.some.inj q
   omega
  ·rw [dsL_nil (by omega)] at q
   cases q
 ·omega
end
end
def val_gi (l : List Int) : Value := .tuple ⟨[.int .i64 (getI l).1, .int .i64 (getI l).2.1, .int .i64 (getI l).2.2]⟩
theorem val_gi_gc {pos : Nat -> Option Nat} {l : List Int} : gcV pos 9 (val_gi l) = some (val_gi l) := gcV_tup3F rfl rfl rfl
theorem val_gi' {l : List Int} {a b c a' b' : Int} (h : getI l = (a', b', c)) (ha : a = a') (hb : b = b') : one [.int .i64 a, .int .i64 b, .int .i64 c] = val_gi l := by
 subst ha; subst hb
 unfold val_gi
 rw [h]
 rfl
end Go.Proofs.YtfgmplbclpadbaaGreatDoor
namespace Go.Proofs.YtfgmplbclpadbaaGreatDoor
open Go.AM
set_option maxRecDepth 100000
set_option maxHeartbeats 1000000
def ok_gi (l : List Int) : Bool := decide (l.length <= 4294967296)
def new_gi (l : List Int) : List (List Value) := []
def spec_gi : Go.AM.Spec := fun us cs => match us, cs with
 | [s_l], [c_l] => if slOk 0 1 c_l s_l && isBys c_l && ok_gi (unints c_l) then some (val_gi (unints c_l), new_gi (unints c_l)) else none
 | _, _ => none
def c_gi := flatC [.sl 1] spec_gi
theorem gi_m {s_l : Value} {l : List Int} (hs_l : Sl 0 1 l.length s_l) (hB_l : Byt l) (hok : ok_gi l = true) : Meets Tryz.prog (.func 73) [s_l] (cheap [bys l]) (val_gi l) (rheap [bys l] (new_gi l)) := by
 have hP := Fits
 have hC : CallSound Tryz.prog (tabOf []) := tab_sound tab_end
 simp only [ok_gi, Bool.and_eq_true, decide_eq_true_eq] at hok
 have hb := hok
 refine meets_start (sz := 71) hP Tryz.func73 rfl rfl zo (by simp only [Tr.ofList, roRows, Nat.zero_add, Nat.reduceAdd] <;> rfl) zl ?_
 refine k_seq (k_region hP hC (oA ?_))
 refine oA ?_
 refine oA ?_
 refine o_done (e_seq (k_seq (k_seq (k_region hP hC (oM ?_)))))
 refine os (x_lenS hs_l rfl rfl zv rfl u23) ?_
 refine os (x_bin rfl zt (by rfl) b_eql) ?_
 refine o_done (e_seq ?_)
 refine k_cond zt (fun g2 => ?_) (fun g2 => ?_)
 ·have p2 := g2; try simp only [dd] at p2
  refine k_seq (k_region hP hC (oA ?_))
  refine oA ?_
  refine oA ?_
  refine o_done (e_seq ?_)
  refine k_ret ?_
  refine e_seq_ret ?_
  refine gives_mk (L := [0]) (slots := [2, 3, 4]) (w := 1) (.inr rfl) zr (gcVs_cons zh (gcV_free rfl) (gcVs_cons zh (gcV_free rfl) (gcVs_cons zh (gcV_free rfl) gcVs_nil))) (gcH_cons (gcO_old (by rfl) zh) gcH_nil) zr (by simp only [Tryz.results73, resA, cst, mkE, Tr.get_set, reduceIte, Nat.reduceEqDiff, Nat.reduceAdd] <;> rfl) ?_
  first
   | exact val_gi' (getI_more0 ow) rfl rfl
   | exact val_gi' (gi_bad hB_l ow rfl ow) rfl rfl
   | exact val_gi' (gi_more hB_l ow rfl ow ow) rfl rfl
   | exact val_gi' (gi_zero hB_l ow rfl ow ow ow (by assumption)) rfl rfl
   | exact val_gi' (gi_big hB_l ow rfl ow ow ow) rfl rfl
   | exact val_gi' (gi_ok hB_l ow rfl ow ow ow ow) (by rw [if_pos (by have := hfs; omega)]; exact wrapNeg hp0 ow) rfl
   | exact val_gi' (gi_ok hB_l ow rfl ow ow ow ow) (by rw [if_neg (by have := hfs; omega)]; exact IntWalk.i64_in _ ow) rfl
 ·have p2 := g2; try simp only [dd] at p2
  refine k_skip (e_seq (k_seq (k_region hP hC (oA ?_))))
  refine o_done (e_seq (k_seq (k_seq (k_region hP hC (oM ?_)))))
  refine os (x_indexS hs_l rfl zt (by rfl) u23 T.s5 ow ow) ?_
  refine os (x_load1 rfl zt T.g5 (by first | exact l_ints (whole_row zh rfl) ow ow | exact l_bys (whole_row zh rfl) ow ow | exact l_partI0 (whole_row zh rfl) (by assumption) rfl ow ow rfl)) ?_
  refine os (x_bin rfl zt (by rfl) b_lss) ?_
  refine o_done (e_seq ?_)
  refine k_join (fun s => To (cheap [bys l]) s (cst 71 [0, 5] [s_l, .int .u8 (fl l)] [.row (bys l) 0 BIG true (bys l).length] 1)) ?_ ?_
  ·skip
   refine k_cond zw (fun g4 => ?_) (fun g4 => ?_)
   ·have p4 := g4; try simp only [dd] at p4
    refine k_region hP hC (oA ?_)
    refine o_done ?_
    refine e_loop ?_
    exact (to_mk (L := [0]) (slots := [0, 5]) (w := 1) zr (gcVs_cons zh (gcV_sl hs_l rfl) (gcVs_cons zh (by rw [show fl l = _ from (by unfold fl; first | exact if_pos ow | exact if_neg ow)]; exact gcV_free rfl) gcVs_nil)) (gcH_cons (gcO_old (by rfl) zh) gcH_nil) zr)
   ·have p4 := g4; try simp only [dd] at p4
    refine k_skip ?_
    refine e_loop ?_
    exact (to_mk (L := [0]) (slots := [0, 5]) (w := 1) zr (gcVs_cons zh (gcV_sl hs_l rfl) (gcVs_cons zh (by rw [show fl l = _ from (by unfold fl; first | exact if_pos ow | exact if_neg ow)]; exact gcV_free rfl) gcVs_nil)) (gcH_cons (gcO_old (by rfl) zh) gcH_nil) zr)
  ·skip
   rintro s hto
   have hf := fl_or (l := l)
   have hrg := fl_rng hB_l ow
   have hfs : fl l = 0 /\ ¬ ith l 0 < 128 \/ fl l = 255 /\ ith l 0 < 128 := by unfold fl; split <;> simp <;> omega
   refine k_to hto (k_cst zm zo zl ?_)
   refine k_seq (k_region hP hC (oM ?_))
   refine os (x_indexS hs_l rfl zt (by rfl) u23 T.s5 ow ow) ?_
   refine os (x_load1 rfl zt T.g5 (by first | exact l_ints (whole_row zh rfl) ow ow | exact l_bys (whole_row zh rfl) ow ow | exact l_partI0 (whole_row zh rfl) (by assumption) rfl ow ow rfl)) ?_
   refine oM ?_
   refine os (x_bin rfl zt zt (b_xor8 (byt_ith hB_l ow ow) hf)) ?_
   refine os (x_conv8i rfl zt u5 u3 (flipB_lt (byt_ith hB_l ow ow))) ?_
   refine os (x_bin rfl zt (by rfl) (b_sub128 (flipB_lt (byt_ith hB_l ow ow)))) ?_
   refine oA ?_
   refine o_done (e_seq (k_seq ?_))
   refine k_join (fun s => To (cheap [bys l]) s (cst 71 [0, 5, 6] [s_l, .int .u8 (fl l), .int .i64 (flipB (fl l) (ith l 0) - 128)] [.row (bys l) 0 BIG true (bys l).length] 1) /\ (flipB (fl l) (ith l 0) - 128) <= 8 /\ (flipB (fl l) (ith l 0) - 128) < l.length /\ ((flipB (fl l) (ith l 0) - 128) <= 0 \/ flipB (fl l) (ith l 1) ≠ 0)) ?_ ?_
   ·skip
    refine k_block (k_seq (k_region hP hC (oM ?_)))
    refine os (x_bin rfl zt (by rfl) b_gtr) ?_
    refine oA ?_
    refine o_done (e_seq ?_)
    refine k_cond zt (fun g6 => ?_) (fun g6 => ?_)
    ·have p6 := g6; try simp only [dd] at p6
     refine k_seq (k_region hP hC (oA ?_))
     refine oA ?_
     refine oA ?_
     refine o_done (e_seq ?_)
     refine k_ret ?_
     refine e_block_ret ?_
     refine e_loop_ret ?_
     refine gives_mk (L := [0]) (slots := [2, 3, 4]) (w := 1) (.inr rfl) zr (gcVs_cons zh (gcV_free rfl) (gcVs_cons zh (gcV_free rfl) (gcVs_cons zh (gcV_free rfl) gcVs_nil))) (gcH_cons (gcO_old (by rfl) zh) gcH_nil) zr (by simp only [Tryz.results73, resA, cst, mkE, Tr.get_set, reduceIte, Nat.reduceEqDiff, Nat.reduceAdd] <;> rfl) ?_
     first
      | exact val_gi' (getI_more0 ow) rfl rfl
      | exact val_gi' (gi_bad hB_l ow rfl ow) rfl rfl
      | exact val_gi' (gi_more hB_l ow rfl ow ow) rfl rfl
      | exact val_gi' (gi_zero hB_l ow rfl ow ow ow (by assumption)) rfl rfl
      | exact val_gi' (gi_big hB_l ow rfl ow ow ow) rfl rfl
      | exact val_gi' (gi_ok hB_l ow rfl ow ow ow ow) (by rw [if_pos (by have := hfs; omega)]; exact wrapNeg hp0 ow) rfl
      | exact val_gi' (gi_ok hB_l ow rfl ow ow ow ow) (by rw [if_neg (by have := hfs; omega)]; exact IntWalk.i64_in _ ow) rfl
    ·have p6 := g6; try simp only [dd] at p6
     refine k_seq (k_region hP hC (oM ?_))
     refine os (x_lenS hs_l rfl rfl zv rfl u23) ?_
     refine oM ?_
     refine os (x_bin rfl zt zt b_leq) ?_
     refine oA ?_
     refine o_done (e_seq ?_)
     refine k_cond zw (fun g8 => ?_) (fun g8 => ?_)
     ·have p8 := g8; try simp only [dd] at p8
      refine k_seq (k_region hP hC (oA ?_))
      refine oA ?_
      refine oA ?_
      refine o_done (e_seq ?_)
      refine k_ret ?_
      refine e_block_ret ?_
      refine e_loop_ret ?_
      refine gives_mk (L := [0]) (slots := [2, 3, 4]) (w := 1) (.inr rfl) zr (gcVs_cons zh (gcV_free rfl) (gcVs_cons zh (gcV_free rfl) (gcVs_cons zh (gcV_free rfl) gcVs_nil))) (gcH_cons (gcO_old (by rfl) zh) gcH_nil) zr (by simp only [Tryz.results73, resA, cst, mkE, Tr.get_set, reduceIte, Nat.reduceEqDiff, Nat.reduceAdd] <;> rfl) ?_
      first
       | exact val_gi' (getI_more0 ow) rfl rfl
       | exact val_gi' (gi_bad hB_l ow rfl ow) rfl rfl
       | exact val_gi' (gi_more hB_l ow rfl ow ow) rfl rfl
       | exact val_gi' (gi_zero hB_l ow rfl ow ow ow (by assumption)) rfl rfl
       | exact val_gi' (gi_big hB_l ow rfl ow ow ow) rfl rfl
       | exact val_gi' (gi_ok hB_l ow rfl ow ow ow ow) (by rw [if_pos (by have := hfs; omega)]; exact wrapNeg hp0 ow) rfl
       | exact val_gi' (gi_ok hB_l ow rfl ow ow ow ow) (by rw [if_neg (by have := hfs; omega)]; exact IntWalk.i64_in _ ow) rfl
     ·have p8 := g8; try simp only [dd] at p8
      refine k_seq (k_region hP hC (oM ?_))
      refine os (x_bin rfl zt (by rfl) b_gtr) ?_
      refine oM ?_
      refine o_guard rfl rfl zh (fun g10 => ?_) (fun g10 => ?_)
      ·have p10 := g10; try simp only [dd] at p10
       refine o_step (wA_on rfl rfl zw) rfl (x_move rfl zt) zd ?_
       refine o_step (wA_on rfl rfl zw) rfl (x_indexS hs_l rfl zt (by rfl) u23 T.s5 ow ow) zd ?_
       refine o_step (wA_on rfl rfl zw) rfl (x_load1 rfl zt T.g5 (by first | exact l_ints (whole_row zh rfl) ow ow | exact l_bys (whole_row zh rfl) ow ow | exact l_partI0 (whole_row zh rfl) (by assumption) rfl ow ow rfl)) zd ?_
       refine o_step (wA_on rfl rfl zw) rfl (x_move rfl zt) zd ?_
       refine o_step (wA_on rfl rfl zw) rfl (x_bin rfl zt zt (b_xor8 (byt_ith hB_l ow ow) hf)) zd ?_
       refine o_step (wA_on rfl rfl zw) rfl (x_bin rfl zt (by rfl) b_eql) zd ?_
       refine os (x_pick rfl zw zb) ?_
       refine oA ?_
       refine o_done (e_seq ?_)
       refine k_cond zw (fun g12 => ?_) (fun g12 => ?_)
       ·have p12 := g12; try simp only [dd] at p12
        refine k_seq (k_region hP hC (oA ?_))
        refine oA ?_
        refine oA ?_
        refine o_done (e_seq ?_)
        refine k_ret ?_
        refine e_block_ret ?_
        refine e_loop_ret ?_
        refine gives_mk (L := [0]) (slots := [2, 3, 4]) (w := 1) (.inr rfl) zr (gcVs_cons zh (gcV_free rfl) (gcVs_cons zh (gcV_free rfl) (gcVs_cons zh (gcV_free rfl) gcVs_nil))) (gcH_cons (gcO_old (by rfl) zh) gcH_nil) zr (by simp only [Tryz.results73, resA, cst, mkE, Tr.get_set, reduceIte, Nat.reduceEqDiff, Nat.reduceAdd] <;> rfl) ?_
        first
         | exact val_gi' (getI_more0 ow) rfl rfl
         | exact val_gi' (gi_bad hB_l ow rfl ow) rfl rfl
         | exact val_gi' (gi_more hB_l ow rfl ow ow) rfl rfl
         | exact val_gi' (gi_zero hB_l ow rfl ow ow ow (by assumption)) rfl rfl
         | exact val_gi' (gi_big hB_l ow rfl ow ow ow) rfl rfl
         | exact val_gi' (gi_ok hB_l ow rfl ow ow ow ow) (by rw [if_pos (by have := hfs; omega)]; exact wrapNeg hp0 ow) rfl
         | exact val_gi' (gi_ok hB_l ow rfl ow ow ow ow) (by rw [if_neg (by have := hfs; omega)]; exact IntWalk.i64_in _ ow) rfl
       ·have p12 := g12; try simp only [dd] at p12
        refine k_skip (e_block ?_)
        refine e_loop ?_
        exact ⟨(to_mk (L := [0]) (slots := [0, 5, 6]) (w := 1) zr (gcVs_cons zh (gcV_sl hs_l rfl) (gcVs_cons zh (gcV_free rfl) (gcVs_cons zh (gcV_free rfl) gcVs_nil))) (gcH_cons (gcO_old (by rfl) zh) gcH_nil) zr), by omega, by omega, by first | exact .inl ow | exact .inr (by assumption) | exact .inr ow⟩
      ·have p10 := g10; try simp only [dd] at p10
       refine oS ?_
       refine oS ?_
       refine oS ?_
       refine oS ?_
       refine oS ?_
       refine oS ?_
       refine os (x_pick rfl zw zb) ?_
       refine oA ?_
       refine o_done (e_seq ?_)
       refine k_condF zw ?_
       refine k_skip (e_block ?_)
       refine e_loop ?_
       exact ⟨(to_mk (L := [0]) (slots := [0, 5, 6]) (w := 1) zr (gcVs_cons zh (gcV_sl hs_l rfl) (gcVs_cons zh (gcV_free rfl) (gcVs_cons zh (gcV_free rfl) gcVs_nil))) (gcH_cons (gcO_old (by rfl) zh) gcH_nil) zr), by omega, by omega, by first | exact .inl ow | exact .inr (by assumption) | exact .inr ow⟩
   ·skip
    rintro s ⟨hto, q8, ql, qz⟩
    refine k_to hto (k_cst zm zo zl ?_)
    refine k_seq (k_region hP hC (oA ?_))
    refine o_done (e_seq (k_seq (k_seq (k_region hP hC ?_))))
    obtain rfl : s_l = .slice (some ⟨0, 0, none⟩) l.length (l.length + 1) := by
     rcases hs_l with ⟨rfl, q⟩ | q
     ·omega
     ·exact q
    refine oM ?_
    refine oM ?_
    refine os (x_bin rfl zt (by rfl) (b_addR ow)) ?_
    refine os (y_sliceE (q := 0) (n := l.length) (off := 0) (sz := 1) (i := 1) (j := flipB (fl l) (ith l 0) - 128 + 1) (off' := 1) (n' := (flipB (fl l) (ith l 0) - 128).toNat) (q' := (l.length : Int).toNat - (flipB (fl l) (ith l 0) - 128 + 1).toNat) rfl ow ow rfl zt (by rfl) zt u23 T.s5 zd zd ow ow) ?_
    refine os (x_lenE (len := (flipB (fl l) (ith l 0) - 128).toNat) (n := flipB (fl l) (ith l 0) - 128) ow rfl rfl zv rfl u23) ?_
    refine os (x_move rfl (by rfl)) ?_
    refine o_done (e_seq (k_block ?_))
    have hk0 : 0 <= (flipB (fl l) (ith l 0) - 128) := by omega
    have hk8 : (flipB (fl l) (ith l 0) - 128) <= 8 := by omega
    have hkl : (flipB (fl l) (ith l 0) - 128) < l.length := by omega
    have hdB := dsL_byt (f := (fl l)) (k := (flipB (fl l) (ith l 0) - 128)) hB_l
    have hdl : (dsL (fl l) (flipB (fl l) (ith l 0) - 128) l).length = (flipB (fl l) (ith l 0) - 128).toNat := dsL_len hk0 hkl
    refine k_loop (α := Int) (fun i => cst 71 [5, 6, 7, 46, 47, 48] [.int .u8 (fl l), .int .i64 (flipB (fl l) (ith l 0) - 128), .int .u64 (num ((dsL (fl l) (flipB (fl l) (ith l 0) - 128) l).take i.toNat)), .slice (some ⟨0, 1, none⟩) (flipB (fl l) (ith l 0) - 128).toNat ((flipB (fl l) (ith l 0) - 128).toNat + (1 + 4294967296 * ((l.length : Int).toNat - ((flipB (fl l) (ith l 0) - 128) + 1).toNat))), .int .i64 (flipB (fl l) (ith l 0) - 128), .int .i64 i] [.row (bys l) 0 BIG true (bys l).length] 1) (fun i => 0 <= i /\ i <= (flipB (fl l) (ith l 0) - 128)) (fun i => ((flipB (fl l) (ith l 0) - 128) - i).toNat) 0 (to_mk (L := [0]) (slots := [5, 6, 7, 46, 47, 48]) (w := 1) zr (gcVs_cons zh (gcV_free rfl) (gcVs_cons zh (gcV_free rfl) (gcVs_cons zh (gcV_free rfl) (gcVs_cons zh (gcV_slice rfl) (gcVs_cons zh (gcV_free rfl) (gcVs_cons zh (gcV_free rfl) gcVs_nil)))))) (gcH_cons (gcO_old (by rfl) zh) gcH_nil) zr) ⟨by omega, by omega⟩ ?_
    rintro i ⟨h0, h1⟩
    have hpB : Byt ((dsL (fl l) (flipB (fl l) (ith l 0) - 128) l).take i.toNat) := byt_take hdB _
    have hp0 := num_nonneg hpB
    refine k_cst zm zo zl ?_
    refine k_seq (k_region hP hC ?_)
    refine os (x_bin rfl zt zt b_lss) ?_
    refine o_done (e_seq (k_seq ?_))
    refine k_cond zt (fun g14 => ?_) (fun g14 => ?_)
    ·have p14 := g14; try simp only [dd] at p14
     refine k_skip (e_seq (k_seq (k_block (k_seq (k_region hP hC ?_)))))
     refine os (x_index rfl zt zt u23 T.s5 ow ow) ?_
     refine os (x_load1 rfl zt T.g5 (l_bysO (whole_row zh rfl) h0 ow)) ?_
     refine oA ?_
     refine o_done (e_seq (k_region hP hC (oM ?_)))
     refine os (x_bin rfl zt (by rfl) (b_shl8 hp0 (num_lt7 hdB ow))) ?_
     refine oM ?_
     refine oM ?_
     refine os (x_bin rfl zt zt (b_xor8 (byt_ith (byt_drop hB_l 1) h0 (by rw [List.length_drop]; omega)) hf)) ?_
     refine os (x_conv8u rfl zt u5 Tryz.underlying228 (flipB_lt (byt_ith (byt_drop hB_l 1) h0 (by rw [List.length_drop]; omega)))) ?_
     have hN : 256 * num ((dsL (fl l) (flipB (fl l) (ith l 0) - 128) l).take i.toNat) + flipB (fl l) (ith (l.drop 1) i) = num ((dsL (fl l) (flipB (fl l) (ith l 0) - 128) l).take (IntKind.i64.wrap (i + 1)).toNat) := by rw [wr1 ow ow, num_next h0 ow, dsL_at h0 ow hkl]
     refine os (x_bin rfl zt zt (b_or8n hp0 (num_lt7 hdB ow) (flipB_lt (byt_ith (byt_drop hB_l 1) h0 (by rw [List.length_drop]; omega))) hN)) ?_
     refine oA ?_
     refine o_done (e_block (e_seq (k_region hP hC ?_)))
     refine os (x_bin rfl zt (by rfl) b_add) ?_
     refine oM ?_
     refine o_done ?_
     refine e_loop ?_
     refine ⟨IntKind.i64.wrap (i + 1), (to_mk (L := [0]) (slots := [5, 6, 7, 46, 47, 48]) (w := 1) zr (gcVs_cons zh (gcV_free rfl) (gcVs_cons zh (gcV_free rfl) (gcVs_cons zh (gcV_free rfl) (gcVs_cons zh (gcV_slice rfl) (gcVs_cons zh (gcV_free rfl) (gcVs_cons zh (gcV_free rfl) gcVs_nil)))))) (gcH_cons (gcO_old (by rfl) zh) gcH_nil) zr), ?_, ?_⟩
     ·rw [wr1 ow ow]; exact ⟨by omega, by omega⟩
     ·rw [wr1 ow ow]; omega
    ·have p14 := g14; try simp only [dd] at p14
     refine k_exit ?_
     refine e_seq_exit ?_
     refine e_loop_exit ?_
     refine e_block_eq ?_
     refine e_seq (k_seq (k_seq (k_region hP hC ?_)))
     have hT : (dsL (fl l) (flipB (fl l) (ith l 0) - 128) l).take i.toNat = dsL (fl l) (flipB (fl l) (ith l 0) - 128) l := List.take_of_length_le ow
     rw [hT] at hp0 ⊢
     have hn8 := num_lt8 hdB ow
     refine oM ?_
     refine os (x_bin rfl zt (by rfl) b_shr63) ?_
     refine os (x_bin rfl zt (by rfl) b_gtr) ?_
     refine o_done (e_seq ?_)
     refine k_cond zw (fun g16 => ?_) (fun g16 => ?_)
     ·have p16 := g16; try simp only [dd] at p16
      refine k_seq (k_region hP hC (oA ?_))
      refine oA ?_
      refine oA ?_
      refine o_done (e_seq ?_)
      refine k_ret ?_
      refine e_seq_ret ?_
      refine gives_mk (L := [0]) (slots := [2, 3, 4]) (w := 1) (.inr rfl) zr (gcVs_cons zh (gcV_free rfl) (gcVs_cons zh (gcV_free rfl) (gcVs_cons zh (gcV_free rfl) gcVs_nil))) (gcH_cons (gcO_old (by rfl) zh) gcH_nil) zr (by simp only [Tryz.results73, resA, cst, mkE, Tr.get_set, reduceIte, Nat.reduceEqDiff, Nat.reduceAdd] <;> rfl) ?_
      first
       | exact val_gi' (getI_more0 ow) rfl rfl
       | exact val_gi' (gi_bad hB_l ow rfl ow) rfl rfl
       | exact val_gi' (gi_more hB_l ow rfl ow ow) rfl rfl
       | exact val_gi' (gi_zero hB_l ow rfl ow ow ow (by assumption)) rfl rfl
       | exact val_gi' (gi_big hB_l ow rfl ow ow ow) rfl rfl
       | exact val_gi' (gi_ok hB_l ow rfl ow ow ow ow) (by rw [if_pos (by have := hfs; omega)]; exact wrapNeg hp0 ow) rfl
       | exact val_gi' (gi_ok hB_l ow rfl ow ow ow ow) (by rw [if_neg (by have := hfs; omega)]; exact IntWalk.i64_in _ ow) rfl
     ·have p16 := g16; try simp only [dd] at p16
      refine k_skip (e_seq (k_seq (k_seq (k_region hP hC (oM ?_)))))
      refine os (x_bin rfl zt (by rfl) b_gtr) ?_
      refine o_done (e_seq ?_)
      refine k_cond zw (fun g18 => ?_) (fun g18 => ?_)
      ·have p18 := g18; try simp only [dd] at p18
       refine k_region hP hC (oM ?_)
       refine os (x_not64 rfl zt hp0 hn8) ?_
       refine oA ?_
       refine o_done (e_seq (k_seq (k_region hP hC (oM ?_))))
       refine os (x_conv64 rfl zt Tryz.underlying228 u3) ?_
       refine oM ?_
       refine os (x_bin rfl zt (by rfl) (b_addR ow)) ?_
       refine oA ?_
       refine oA ?_
       refine oA ?_
       refine o_done (e_seq ?_)
       refine k_ret ?_
       refine gives_mk (L := [0]) (slots := [2, 3, 4]) (w := 1) (.inr rfl) zr (gcVs_cons zh (gcV_free rfl) (gcVs_cons zh (gcV_free rfl) (gcVs_cons zh (gcV_free rfl) gcVs_nil))) (gcH_cons (gcO_old (by rfl) zh) gcH_nil) zr (by simp only [Tryz.results73, resA, cst, mkE, Tr.get_set, reduceIte, Nat.reduceEqDiff, Nat.reduceAdd] <;> rfl) ?_
       first
        | exact val_gi' (getI_more0 ow) rfl rfl
        | exact val_gi' (gi_bad hB_l ow rfl ow) rfl rfl
        | exact val_gi' (gi_more hB_l ow rfl ow ow) rfl rfl
        | exact val_gi' (gi_zero hB_l ow rfl ow ow ow (by assumption)) rfl rfl
        | exact val_gi' (gi_big hB_l ow rfl ow ow ow) rfl rfl
        | exact val_gi' (gi_ok hB_l ow rfl ow ow ow ow) (by rw [if_pos (by have := hfs; omega)]; exact wrapNeg hp0 ow) rfl
        | exact val_gi' (gi_ok hB_l ow rfl ow ow ow ow) (by rw [if_neg (by have := hfs; omega)]; exact IntWalk.i64_in _ ow) rfl
      ·have p18 := g18; try simp only [dd] at p18
       refine k_skip (e_seq (k_seq (k_region hP hC (oM ?_))))
       refine os (x_conv64 rfl zt Tryz.underlying228 u3) ?_
       refine oM ?_
       refine os (x_bin rfl zt (by rfl) (b_addR ow)) ?_
       refine oA ?_
       refine oA ?_
       refine oA ?_
       refine o_done (e_seq ?_)
       refine k_ret ?_
       refine gives_mk (L := [0]) (slots := [2, 3, 4]) (w := 1) (.inr rfl) zr (gcVs_cons zh (gcV_free rfl) (gcVs_cons zh (gcV_free rfl) (gcVs_cons zh (gcV_free rfl) gcVs_nil))) (gcH_cons (gcO_old (by rfl) zh) gcH_nil) zr (by simp only [Tryz.results73, resA, cst, mkE, Tr.get_set, reduceIte, Nat.reduceEqDiff, Nat.reduceAdd] <;> rfl) ?_
       first
        | exact val_gi' (getI_more0 ow) rfl rfl
        | exact val_gi' (gi_bad hB_l ow rfl ow) rfl rfl
        | exact val_gi' (gi_more hB_l ow rfl ow ow) rfl rfl
        | exact val_gi' (gi_zero hB_l ow rfl ow ow ow (by assumption)) rfl rfl
        | exact val_gi' (gi_big hB_l ow rfl ow ow ow) rfl rfl
        | exact val_gi' (gi_ok hB_l ow rfl ow ow ow ow) (by rw [if_pos (by have := hfs; omega)]; exact wrapNeg hp0 ow) rfl
        | exact val_gi' (gi_ok hB_l ow rfl ow ow ow ow) (by rw [if_neg (by have := hfs; omega)]; exact IntWalk.i64_in _ ow) rfl
theorem con_gi : Con Tryz.prog 73 c_gi := con_flat Tryz.func73 rfl fun us cs v new h => by
 unfold spec_gi at h
 split at h
 case h_2 => cases h
 rename_i s_l c_l
 split at h
 case isFalse => cases h
 rename_i hc
 try simp only [Bool.and_eq_true] at hc
 obtain ⟨⟨q_l, r_l⟩, hok⟩ := hc
 cases h
 have e_l := bys_unints r_l
 have hs_l := slOk_sl (n := (unints c_l).length) q_l zd (by rw [<-bys_len, e_l, Nat.mul_one])
 have key := gi_m hs_l (isBys_byt r_l) hok
 have hrows : [bys (unints c_l)] = [c_l] := by rw [e_l]
 rw [<-hrows]
 exact key
theorem gi_c {H : AH} {s_l : Value} {l : List Int} (hr_l : Rd H 1 s_l l.length (bys l)) (hB_l : Byt l) (hok : ok_gi l = true) : c_gi [s_l] H = some (val_gi l, H) := by
 obtain ⟨u_l, a_l, b_l⟩ := hr_l 0
 exact flatC_at (v := val_gi l) (new := new_gi l) (cl_sl a_l cl_nil) (by simp only [spec_gi, sl_slOk b_l (by rw [bys_len, Nat.mul_one]), isBys_bys hB_l, unints_bys, hok, Bool.and_self, if_true]) (rfl) (val_gi_gc)
end Go.Proofs.YtfgmplbclpadbaaGreatDoor
namespace Go.Proofs.YtfgmplbclpadbaaGreatDoor
open Go.AM
set_option maxRecDepth 100000
set_option maxHeartbeats 1000000
def mag (n : Int) : Int := if n < 0 then -1 - n else n
def dg (n : Int) : List Int := digs (mag n).toNat
def sgn (n d : Int) : Int := if n < 0 then 255 - d else d
def hd1 (n : Int) : Int := if n < 0 then 127 - (dg n).length else 128 + (dg n).length
theorem enc_eq (n : Int) : encI n = hd1 n :: (dg n).reverse.map (sgn n) := by
 unfold encI hd1 dg mag sgn
 by_cases h : n < 0
 ·simp only [if_pos h]
 ·simp only [if_neg h, List.map_id']
theorem dg_len {n : Int} (hn : inR n) : (dg n).length <= 8 := by
 refine digs_len 8 _ ?_
 unfold inR at hn
 unfold mag
 have : (256 : Nat) ^ 8 = 18446744073709551616 := by decide
 rw [this]
 split <;> omega
theorem dg_byt (n : Int) : Byt (dg n) := digs_byt _ _ (Nat.le_refl _)
theorem mag_rng {n : Int} (hn : inR n) : 0 <= mag n /\ mag n <= 9223372036854775807 := by
 unfold inR at hn
 unfold mag
 split <;> omega
theorem b_rem256 {P : Program} {t : TypeId} {xo yo : Operand} {m : Int} (h : 0 <= m) : binV P .rem t xo yo (.int .i64 m) (.int .i64 256) = some (.int .i64 (m % 256)) := by
 rw [b_rem zd, Int.tmod_eq_emod_of_nonneg h]
theorem b_quo256 {P : Program} {t : TypeId} {xo yo : Operand} {m : Int} (h : 0 <= m) (h1 : m <= 9223372036854775807) : binV P .quo t xo yo (.int .i64 m) (.int .i64 256) = some (.int .i64 (m / 256)) := by
 rw [b_quo zd, Int.tdiv_eq_ediv_of_nonneg h, IntWalk.i64_in _ ow]
theorem wrap8 {a : Int} (h : 0 <= a /\ a < 256) : IntKind.u8.wrap a = a := by
 unfold IntKind.wrap
 simp only [IntKind.signed, Bool.false_and, Bool.false_eq_true, if_false, IntKind.bits]
 show a % 256 = a
 omega
theorem x_convTo8 {P : Program} {call : Call'} {e : Tr Value} {h : AH} {o : Oper} {S T : TypeId} {x : Operand} {a : Int} {u : TypeDesc} (ho : o.op = .convert S T x) (hx : ev e x = some (.int .i64 a)) (hs : P.underlying S = some u) (hd : P.underlying T = some (.int .u8)) (ha : 0 <= a /\ a < 256) : doOp P call e h o = some (.int .u8 a, h) := by
 have := x_convI (call := call) (h := h) ho hx hs hd
 rwa [wrap8 ha] at this
theorem b_sub8 {P : Program} {t : TypeId} {xo yo : Operand} {a : Int} (h : 0 <= a /\ a < 256) : binV P .sub t xo yo (.int .u8 255) (.int .u8 a) = some (.int .u8 (255 - a)) := by
 rw [b_sub, wrap8 ow]
theorem bys_snoc (l : List Int) (x : Int) : bys (l ++ [x]) = bys l ++ [.int .u8 x] := bys_append l [x]
theorem dg_step {m : Int} (h : 0 < m) : digs m.toNat = (m % 256) :: digs (m / 256).toNat := by
 rw [digs_pos ow]
 have e1 : ((m.toNat % 256 : Nat) : Int) = m % 256 := by omega
 have e2 : m.toNat / 256 = (m / 256).toNat := by omega
 rw [e1, e2]
theorem AccP.low {t : Tr AObj} {n0 n1 nx k n : Nat} {S : Nat -> Prop} {v : Value} {d : List Value} (h : AccP t n0 nx S k v n d) (h1 : n1 <= n0) : AccP t n1 nx S k v n d := ⟨h.acc, fun x hx => by have := h.bnd x hx; omega⟩
def outL (n i : Int) : List Int := hd1 n :: ((dg n).drop (i + 1).toNat).reverse.map (sgn n)
theorem out_start {n : Int} : outL n ((dg n).length - 1) = [hd1 n] := by
 unfold outL
 rw [List.drop_eq_nil_of_le ow]; rfl
theorem out_all {n : Int} : outL n (-1) = encI n := by
 rw [enc_eq]; rfl
theorem out_len {n i : Int} (h0 : -1 <= i) (h1 : i < (dg n).length) : ((outL n i).length : Int) = (dg n).length - i := by
 unfold outL
 rw [List.length_cons, List.length_map, List.length_reverse, List.length_drop]
 omega
theorem out_next {n i : Int} (h0 : 0 <= i) (h1 : i < (dg n).length) : outL n (i - 1) = outL n i ++ [sgn n (ith (dg n) i)] := by
 unfold outL
 have e : (i - 1 + 1).toNat = i.toNat := by omega
 have e2 : (i + 1).toNat = i.toNat + 1 := by omega
 rw [e, e2, List.drop_eq_getElem_cons (by omega : i.toNat < (dg n).length), List.reverse_cons, List.map_append, ith_eq h0 h1]
 rfl
def R_int : List Value -> AH -> Value -> AH -> Prop := fun args h v h' => ∀ n, args = [.int .i64 n] -> ∃ t' nx' wr', h' = ⟨t', nx', wr'⟩ /\ Fr h.t h.next h.wr t' nx' wr' 60 /\ ∃ S, AccP t' h.next nx' S 1 v (encI n).length (bys (encI n))
noncomputable def c_int := cEx Tryz.prog 23 R_int
theorem con_int : Con Tryz.prog 23 c_int := con_ex Tryz.func23 rfl
set_option maxHeartbeats 4000000
theorem int_c {t : Tr AObj} {nx wr : Nat} {n : Int} (hn : inR n) (hB : nx + 100 <= BIG) (hwr : wr <= BIG) : ∃ v h', c_int [.int .i64 n] ⟨t, nx, wr⟩ = some (v, h') /\ ∃ t' nx' wr', h' = ⟨t', nx', wr'⟩ /\ Fr t nx wr t' nx' wr' 60 /\ ∃ S, AccP t' nx nx' S 1 v (encI n).length (bys (encI n)) := by
 have hP := Fits
 have hC : CallSound Tryz.prog (tabOf []) := tab_sound tab_end
 have hm := mag_rng hn
 have hdl := dg_len hn
 have hdB := dg_byt n
 have hBIG : BIG = 1152921504606846976 \/ 0 < BIG := .inr ow
 have hn' : -9223372036854775808 <= n /\ n <= 9223372036854775807 := hn
 suffices key : SureK Tryz.prog ⟨t, nx, wr⟩ _ [] _ (EndR Tryz.prog _ (R_int [.int .i64 n] ⟨t, nx, wr⟩)) by
  obtain ⟨v, h', a, b⟩ := sure_start (R := R_int) (sz := 59) Tryz.func23 rfl rfl zo key
  exact ⟨v, h', a, b n rfl⟩
 refine s_seq (s_region hP hC (oA ?_))
 refine o_done (se_seq (s_seq (s_region hP hC (oM ?_))))
 refine oA ?_
 refine o_done (se_seq (s_seq (s_seq (s_region hP hC (oM ?_)))))
 refine os (x_bin rfl zt (by rfl) b_lss) ?_
 refine o_done (se_seq ?_)
 refine s_join (fun s => ∃ e, s = ⟨e, 59, ⟨t, nx, wr⟩⟩ /\ e.get 0 = some (.int .i64 n) /\ e.get 3 = some (.int .i64 (mag n))) ?_ ?_
 ·skip
  refine s_cond zt (fun g2 => ?_) (fun g2 => ?_)
  ·have p2 := g2; try simp only [dd] at p2
   refine s_region hP hC (oM ?_)
   refine os (x_bin rfl (by rfl) zt (b_subR ow)) ?_
   refine oA ?_
   refine o_done ?_
   refine se_loop ?_
   exact ⟨_, rfl, zh, by rw [show mag n = _ from by unfold mag; first | exact if_pos ow | exact if_neg ow]; simp only [Tr.get_set, reduceIte, Nat.reduceEqDiff, Nat.reduceAdd, g2] <;> rfl⟩
  ·have p2 := g2; try simp only [dd] at p2
   refine s_skip ?_
   refine se_loop ?_
   exact ⟨_, rfl, zh, by rw [show mag n = _ from by unfold mag; first | exact if_pos ow | exact if_neg ow]; simp only [Tr.get_set, reduceIte, Nat.reduceEqDiff, Nat.reduceAdd, g2] <;> rfl⟩
 ·skip
  rintro s ⟨e, rfl, hea0, hea3⟩
  refine s_seq (s_region hP hC (oA ?_))
  refine o_done (se_seq (s_seq (s_block ?_)))
  refine s_loop (α := Int × List Int) (fun z s => ∃ v e t1 nx1 wr1 S, s = ⟨e, 59, ⟨t1, nx1, wr1⟩⟩ /\ e.get 0 = some (.int .i64 n) /\ e.get 3 = some (.int .i64 z.1) /\ e.get 4 = some (v) /\ 0 <= z.1 /\ z.1 <= 9223372036854775807 /\ z.2 ++ digs z.1.toNat = dg n /\ AccP t1 nx nx1 S 1 v z.2.length (bys z.2) /\ nx <= nx1 /\ nx1 <= nx + 3 * z.2.length /\ min wr nx <= wr1 /\ wr1 <= wr /\ (∀ id, id < nx -> t1.get id = t.get id)) (fun z => z.1.toNat) (mag n, []) ⟨_, _, _, _, _, _, rfl, za, za, za, hm.1, hm.2, rfl, .start, by omega, by omega, by omega, by omega, fun _ _ => rfl⟩ ?_
  rintro ⟨m, acc⟩ s ⟨v, e, t1, nx1, wr1, S, rfl, heb0, heb3, heb4, m0, m1, hD, aA, n0, nb, w0, w1, hx1⟩
  dsimp only at heb3 m0 m1 hD aA nb
  have noA := aA.no
  have hal : acc.length <= 8 := by have := congrArg List.length hD; rw [List.length_append] at this; omega
  refine s_seq (s_seq (s_region hP hC (oM ?_)))
  refine os (x_bin rfl za (by rfl) b_gtr) ?_
  refine o_done (se_seq ?_)
  refine s_cond za (fun g4 => ?_) (fun g4 => ?_)
  ·have p4 := g4; try simp only [dd] at p4
   refine s_skip (se_seq (s_block (s_seq (s_region hP hC (oM ?_)))))
   refine oM ?_
   refine os (x_bin rfl za (by rfl) (b_rem256 m0)) ?_
   refine os (x_convTo8 rfl za u3 u5 ow) ?_
   refine os (y_bsliceV rfl za rfl u23 T.s5 T.z5 rfl rfl) ?_
   refine o_appS aA ow (fun x hs => by rw [Tr.get_set, if_neg (by have := aA.bnd x hs; omega)]) ow (wA_none rfl) rfl rfl rfl ze rfl rfl zr (cells_row u23 T.s5 (l_all (whole_row (by (repeat (first | rw [gn ow] | rw [hx1 _ ow])) <;> first | rfl | assumption | (rw [gp ow]; done) | (rw [gp ow]; rfl)) rfl) rfl)) u23 T.i23 zd rfl ow (by unfold BIG; omega) rfl zd zd zd (fun v1 t1 w1 b11 b21 a1 k1 => ?_)
   refine oA ?_
   refine o_done (se_seq (s_region hP hC (oM ?_)))
   refine os (x_bin rfl za (by rfl) (b_quo256 m0 m1)) ?_
   refine oA ?_
   refine o_done (se_block ?_)
   refine se_loop ?_
   have e1 : (acc ++ [m % 256]).length = acc.length + 1 := by rw [List.length_append]; rfl
   refine ⟨(m / 256, acc ++ [m % 256]), ⟨v1, _, _, _, _, _, rfl, za, za, za, by dsimp only; omega, by dsimp only; omega, by dsimp only; rw [List.append_assoc, List.singleton_append, <-dg_step ow]; exact hD, by dsimp only; rw [e1, bys_snoc]; exact a1, by omega, by dsimp only; omega, by omega, by omega, fun id hid => by (repeat (first | rw [gn ow] | rw [k1 _ (noA _ ow) ow] | rw [hx1 _ ow])) <;> first | rfl | assumption | (rw [gp ow]; done) | (rw [gp ow]; rfl)⟩, by dsimp only; omega⟩
  ·have p4 := g4; try simp only [dd] at p4
   refine s_exit ?_
   refine se_seq_exit ?_
   refine se_loop_exit ?_
   refine se_block_eq (se_seq (s_seq ?_))
   have hm0 : m = 0 := by omega
   subst hm0
   rw [Int.toNat_zero, digs_0, List.append_nil] at hD
   subst hD
   have rD : RdS t1 nx1 1 v (dg n).length (bys (dg n)) := aA.rds
   refine s_region hP hC (oM ?_)
   refine os (x_lenD rD rfl rfl ze rfl u23) ?_
   refine oA ?_
   refine o_done (se_seq (s_seq (s_region hP hC (oA ?_))))
   refine o_done (se_seq (s_seq (s_seq (s_region hP hC (oM ?_)))))
   refine os (x_bin rfl za (by rfl) b_geq) ?_
   refine o_done (se_seq ?_)
   refine s_join (fun s => ∃ w e t2 nx2 wr2 S2, s = ⟨e, 59, ⟨t2, nx2, wr2⟩⟩ /\ e.get 0 = some (.int .i64 n) /\ e.get 4 = some (v) /\ e.get 5 = some (.int .i64 (dg n).length) /\ e.get 6 = some (w) /\ AccP t2 nx1 nx2 S2 1 w 1 (bys [hd1 n]) /\ nx1 <= nx2 /\ nx2 <= nx1 + 2 /\ min wr1 nx1 <= wr2 /\ wr2 <= wr1 /\ (∀ id, id < nx1 -> t2.get id = t1.get id)) ?_ ?_
   ·skip
    refine s_cond za (fun g6 => ?_) (fun g6 => ?_)
    ·have p6 := g6; try simp only [dd] at p6
     refine s_region hP hC (oM ?_)
     refine oM ?_
     refine os (x_bin rfl (by rfl) za (b_addR ow)) ?_
     refine os (x_convTo8 rfl za u3 u5 ow) ?_
     refine os (y_bsliceV rfl za rfl u23 T.s5 T.z5 rfl rfl) ?_
     refine o_appS (AccP.start (t := t1) (nx := nx1) (n0 := nx1) (k := 1)) ow (fun x hs => by rw [Tr.get_set, if_neg (by have := (AccP.start (t := t1) (nx := nx1) (n0 := nx1) (k := 1)).bnd x hs; omega)]) ow (wA_none rfl) rfl rfl rfl ze rfl rfl zr (cells_row u23 T.s5 (l_all (whole_row (by (repeat (first | rw [gn ow] | rw [hx1 _ ow])) <;> first | rfl | assumption | (rw [gp ow]; done) | (rw [gp ow]; rfl)) rfl) rfl)) u23 T.i23 zd rfl ow (by unfold BIG; omega) rfl zd zd zd (fun v2 t2 w2 b12 b22 a2 k2 => ?_)
     refine oA ?_
     refine o_done ?_
     refine se_loop ?_
     exact ⟨v2, _, _, _, _, _, rfl, za, za, za, za, by rw [show hd1 n = _ from by unfold hd1; first | exact if_pos ow | exact if_neg ow]; exact a2, by omega, by omega, by omega, by omega, fun id hid => by (repeat (first | rw [gn ow] | rw [k2 _ ((fun _ _ h => h) _ ow) ow])) <;> first | rfl | assumption | (rw [gp ow]; done) | (rw [gp ow]; rfl)⟩
    ·have p6 := g6; try simp only [dd] at p6
     refine s_region hP hC (oM ?_)
     refine oM ?_
     refine os (x_bin rfl (by rfl) za (b_subR ow)) ?_
     refine os (x_convTo8 rfl za u3 u5 ow) ?_
     refine os (y_bsliceV rfl za rfl u23 T.s5 T.z5 rfl rfl) ?_
     refine o_appS (AccP.start (t := t1) (nx := nx1) (n0 := nx1) (k := 1)) ow (fun x hs => by rw [Tr.get_set, if_neg (by have := (AccP.start (t := t1) (nx := nx1) (n0 := nx1) (k := 1)).bnd x hs; omega)]) ow (wA_none rfl) rfl rfl rfl ze rfl rfl zr (cells_row u23 T.s5 (l_all (whole_row (by (repeat (first | rw [gn ow] | rw [hx1 _ ow])) <;> first | rfl | assumption | (rw [gp ow]; done) | (rw [gp ow]; rfl)) rfl) rfl)) u23 T.i23 zd rfl ow (by unfold BIG; omega) rfl zd zd zd (fun v3 t3 w3 b13 b23 a3 k3 => ?_)
     refine oA ?_
     refine o_done ?_
     refine se_loop ?_
     exact ⟨v3, _, _, _, _, _, rfl, za, za, za, za, by rw [show hd1 n = _ from by unfold hd1; first | exact if_pos ow | exact if_neg ow]; exact a3, by omega, by omega, by omega, by omega, fun id hid => by (repeat (first | rw [gn ow] | rw [k3 _ ((fun _ _ h => h) _ ow) ow])) <;> first | rfl | assumption | (rw [gp ow]; done) | (rw [gp ow]; rfl)⟩
   ·skip
    rintro s ⟨w, e, t2, nx2, wr2, S2, rfl, hec0, hec4, hec5, hec6, aB, n20, n21, w20, w21, hx2⟩
    have rE : RdS t2 nx2 1 v (dg n).length (bys (dg n)) := rD.keep n20 hx2
    refine s_seq (s_seq (s_region hP hC (oM ?_)))
    refine os (x_bin rfl za (by rfl) (b_subR ow)) ?_
    refine oA ?_
    refine o_done (se_seq (s_block ?_))
    refine s_loop (α := Int) (fun i s => ∃ w e t3 nx3 wr3 S3, s = ⟨e, 59, ⟨t3, nx3, wr3⟩⟩ /\ e.get 0 = some (.int .i64 n) /\ e.get 4 = some (v) /\ e.get 6 = some (w) /\ e.get 7 = some (.int .i64 i) /\ -1 <= i /\ i < (dg n).length /\ AccP t3 nx1 nx3 S3 1 w (outL n i).length (bys (outL n i)) /\ nx2 <= nx3 /\ (nx3 : Int) <= nx2 + 2 * ((dg n).length - i) /\ min wr1 nx1 <= wr3 /\ wr3 <= wr1 /\ (∀ id, id < nx1 -> t3.get id = t1.get id)) (fun i => (i + 1).toNat) ((dg n).length - 1) ⟨_, _, _, _, _, _, rfl, za, za, za, za, by omega, by omega, by rw [out_start]; exact aB, by omega, by omega, by omega, by omega, fun id hid => by (repeat (first | rw [gn ow] | rw [hx2 _ ow])) <;> first | rfl | assumption | (rw [gp ow]; done) | (rw [gp ow]; rfl)⟩ ?_
    rintro i s ⟨w, e, t3, nx3, wr3, S3, rfl, hed0, hed4, hed6, hed7, i0, i1, aC, n30, n31, w30, w31, hx3⟩
    have noC := aC.no
    have hol := out_len i0 i1
    refine s_seq (s_seq (s_region hP hC (oM ?_)))
    refine os (x_bin rfl za (by rfl) b_geq) ?_
    refine o_done (se_seq ?_)
    refine s_cond za (fun g8 => ?_) (fun g8 => ?_)
    ·have p8 := g8; try simp only [dd] at p8
     refine s_skip (se_seq (s_seq (s_block (s_seq (s_region hP hC ?_)))))
     obtain ⟨idD, roD, rfl, oD, oD1, oD2⟩ := rD.own ow
     refine oM ?_
     refine oM ?_
     refine os (x_index rfl za za u23 T.s5 ow ow) ?_
     have hdi := byt_ith hdB (i := i) ow ow
     refine os (x_load1 rfl za T.g5 (l_bys ((oD.keep (hx3 _ ow) (hx3 _ ow)).whole) ow ow)) ?_
     refine oA ?_
     refine o_done (se_seq (s_seq (s_seq (s_region hP hC (oM ?_)))))
     refine os (x_bin rfl za (by rfl) b_lss) ?_
     refine o_done (se_seq ?_)
     refine s_join (fun s => ∃ e, s = ⟨e, 59, ⟨t3, nx3, wr3⟩⟩ /\ e.get 0 = some (.int .i64 n) /\ e.get 4 = some (.slice (some ⟨idD, 0, none⟩) (dg n).length ((dg n).length + 1)) /\ e.get 6 = some (w) /\ e.get 7 = some (.int .i64 i) /\ e.get 8 = some (.int .u8 (sgn n (ith (dg n) i)))) ?_ ?_
     ·skip
      refine s_cond za (fun g10 => ?_) (fun g10 => ?_)
      ·have p10 := g10; try simp only [dd] at p10
       refine s_region hP hC (oM ?_)
       refine os (x_bin rfl (by rfl) za (b_sub8 hdi)) ?_
       refine oA ?_
       refine o_done ?_
       refine se_loop ?_
       exact ⟨_, rfl, za, za, za, za, by rw [show sgn n (ith (dg n) i) = _ from by unfold sgn; first | exact if_pos ow | exact if_neg ow]; simp only [Tr.get_set, reduceIte, Nat.reduceEqDiff, Nat.reduceAdd, hed0, hed4, hed6, hed7, g8, g10] <;> rfl⟩
      ·have p10 := g10; try simp only [dd] at p10
       refine s_skip ?_
       refine se_loop ?_
       exact ⟨_, rfl, za, za, za, za, by rw [show sgn n (ith (dg n) i) = _ from by unfold sgn; first | exact if_pos ow | exact if_neg ow]; simp only [Tr.get_set, reduceIte, Nat.reduceEqDiff, Nat.reduceAdd, hed0, hed4, hed6, hed7, g8, g10] <;> rfl⟩
     ·skip
      rintro s ⟨e, rfl, hee0, hee4, hee6, hee7, hee8⟩
      refine s_region hP hC (oM ?_)
      refine oM ?_
      refine os (y_bsliceV rfl za rfl u23 T.s5 T.z5 rfl rfl) ?_
      refine o_appS aC ow (fun x hs => by rw [Tr.get_set, if_neg (by have := aC.bnd x hs; omega)]) ow (wA_none rfl) rfl rfl rfl ze rfl rfl zr (cells_row u23 T.s5 (l_all (whole_row (by (repeat (first | rw [gn ow] | rw [hx3 _ ow])) <;> first | rfl | assumption | (rw [gp ow]; done) | (rw [gp ow]; rfl)) rfl) rfl)) u23 T.i23 zd rfl ow (by unfold BIG; omega) rfl zd zd zd (fun v4 t4 w4 b14 b24 a4 k4 => ?_)
      refine oA ?_
      refine o_done (se_block (se_seq (s_region hP hC (oM ?_))))
      refine os (x_bin rfl za (by rfl) (b_subR ow)) ?_
      refine oA ?_
      refine o_done ?_
      refine se_loop ?_
      have hw1 : IntKind.i64.wrap (i - 1) = i - 1 := IntWalk.i64_in _ ow
      refine ⟨i - 1, ⟨v4, _, _, _, _, _, rfl, za, za, za, za, by omega, by omega, by rw [out_next ow i1, List.length_append, bys_snoc]; exact a4, by omega, by omega, by omega, by omega, fun id hid => by (repeat (first | rw [gn ow] | rw [k4 _ (noC _ ow) ow] | rw [hx3 _ ow])) <;> first | rfl | assumption | (rw [gp ow]; done) | (rw [gp ow]; rfl)⟩, by omega⟩
    ·have p8 := g8; try simp only [dd] at p8
     refine s_exit ?_
     refine se_seq_exit ?_
     refine se_loop_exit ?_
     refine se_block_eq (se_seq (s_seq (s_region hP hC (oM ?_))))
     refine oA ?_
     refine o_done (se_seq ?_)
     refine s_ret ?_
     refine ⟨.inr rfl, _, (by simp only [Tryz.results23, resA, Tr.get_set, reduceIte, Nat.reduceEqDiff, Nat.reduceAdd, hed0, hed4, hed6, hed7, g8] <;> rfl), fun n' hn' => ?_⟩
     cases hn'
     have hi : i = -1 := by omega
     subst hi
     rw [out_all] at aC
     exact ⟨_, _, _, rfl, ⟨by show nx <= nx3; omega, by show nx3 <= nx + 60; omega, by show min wr nx <= wr3; omega, by show wr3 <= wr; omega, fun id (hid : id < nx) => (hx3 id ow).trans (hx1 id hid)⟩, _, AccP.low aC n0⟩
end Go.Proofs.YtfgmplbclpadbaaGreatDoor
namespace Go.Proofs.YtfgmplbclpadbaaGreatDoor
open Go.AM
set_option maxRecDepth 100000
set_option maxHeartbeats 1000000
theorem take_same {l m : List Int} {i : Int} (h0 : 0 <= i) (h1 : i < l.length) (h2 : l.length = m.length) (h3 : l.take i.toNat = m.take i.toNat) (h4 : ith l i = ith m i) : l.take (i + 1).toNat = m.take (i + 1).toNat := by
 rw [take_next h0 h1, take_next h0 ow, h3, <-ith_eq h0 h1, <-ith_eq h0 ow, h4]
theorem ne_len {l m : List Int} (h : ¬ (l.length : Int) = m.length) : decide (l = m) = false := decide_eq_false fun e => h (by rw [e])
theorem ne_ith {l m : List Int} {i : Int} (h : ¬ ith l i = ith m i) : decide (l = m) = false := decide_eq_false fun e => h (by rw [e])
theorem eq_end {l m : List Int} {i : Int} (h1 : (l.length : Int) <= i) (h2 : l.length = m.length) (h3 : l.take i.toNat = m.take i.toNat) : decide (l = m) = true := decide_eq_true (by rw [take_end h1, take_end ow] at h3; exact h3)
def ok_same (l : List Int) (m : List Int) : Bool := decide (l.length <= 4294967296) && decide (m.length <= 4294967296)
def val_same (l : List Int) (m : List Int) : Value := .bool (decide (l = m))
def new_same (l : List Int) (m : List Int) : List (List Value) := []
def spec_same : Go.AM.Spec := fun us cs => match us, cs with
 | [s_l, s_m], [c_l, c_m] => if slOk 0 1 c_l s_l && isBys c_l && slOk 1 1 c_m s_m && isBys c_m && ok_same (unints c_l) (unints c_m) then some (val_same (unints c_l) (unints c_m), new_same (unints c_l) (unints c_m)) else none
 | _, _ => none
def c_same := flatC [.sl 1, .sl 1] spec_same
theorem same_m {s_l : Value} {s_m : Value} {l : List Int} {m : List Int} (hs_l : Sl 0 1 l.length s_l) (hB_l : Byt l) (hs_m : Sl 1 1 m.length s_m) (hB_m : Byt m) (hok : ok_same l m = true) : Meets Tryz.prog (.func 17) [s_l, s_m] (cheap [bys l, bys m]) (val_same l m) (rheap [bys l, bys m] (new_same l m)) := by
 have hP := Fits
 have hC : CallSound Tryz.prog (tabOf []) := tab_sound tab_end
 simp only [ok_same, Bool.and_eq_true, decide_eq_true_eq] at hok
 obtain ⟨hb, hc⟩ := hok
 refine meets_start (sz := 26) hP Tryz.func17 rfl rfl zo (by simp only [Tr.ofList, roRows, Nat.zero_add, Nat.reduceAdd] <;> rfl) zl ?_
 refine k_seq (k_region hP hC (oA ?_))
 refine o_done (e_seq (k_seq (k_seq (k_region hP hC (oM ?_)))))
 refine os (x_lenS hs_l rfl rfl zv rfl u23) ?_
 refine oM ?_
 refine os (x_lenS hs_m rfl rfl zv rfl u23) ?_
 refine os (x_bin rfl zt zt b_neq) ?_
 refine o_done (e_seq ?_)
 refine k_cond zt (fun g2 => ?_) (fun g2 => ?_)
 ·have p2 := g2; try simp only [dd] at p2
  refine k_seq (k_region hP hC (oA ?_))
  refine o_done (e_seq ?_)
  refine k_ret ?_
  refine e_seq_ret ?_
  refine gives_mk (L := [0, 1]) (slots := [4]) (w := 2) (.inr rfl) zr (gcVs_cons zh (gcV_free rfl) gcVs_nil) (gcH_cons (gcO_old (by rfl) zh) (gcH_cons (gcO_old (by rfl) zh) gcH_nil)) zr (by simp only [Tryz.results17, resA, cst, mkE, Tr.get_set, reduceIte, Nat.reduceEqDiff, Nat.reduceAdd] <;> rfl) ?_
  simp only [one, val_same]
  first
   | rw [ne_len ow]
   | rw [ne_ith (i := i) (by assumption)]
   | rw [eq_end ow h2 h3]
 ·have p2 := g2; try simp only [dd] at p2
  refine k_skip (e_seq (k_seq (k_seq (k_region hP hC (oA ?_)))))
  refine o_done (e_seq (k_block ?_))
  refine k_loop (α := Int) (fun i => cst 26 [0, 1, 5] [s_l, s_m, .int .i64 i] [.row (bys l) 0 BIG true (bys l).length, .row (bys m) 1 BIG true (bys m).length] 2) (fun i => 0 <= i /\ i <= l.length /\ l.length = m.length /\ l.take i.toNat = m.take i.toNat) (fun i => (l.length - i).toNat) 0 (to_mk (L := [0, 1]) (slots := [0, 1, 5]) (w := 2) zr (gcVs_cons zh (gcV_sl hs_l rfl) (gcVs_cons zh (gcV_sl hs_m rfl) (gcVs_cons zh (gcV_free rfl) gcVs_nil))) (gcH_cons (gcO_old (by rfl) zh) (gcH_cons (gcO_old (by rfl) zh) gcH_nil)) zr) ⟨by omega, by omega, by omega, rfl⟩ ?_
  rintro i ⟨h0, h1, h2, h3⟩
  refine k_cst zm zo zl ?_
  refine k_seq (k_seq (k_region hP hC (oM ?_)))
  refine oM ?_
  refine os (x_lenS hs_l rfl rfl zv rfl u23) ?_
  refine os (x_bin rfl zt zt b_lss) ?_
  refine o_done (e_seq ?_)
  refine k_cond zt (fun g4 => ?_) (fun g4 => ?_)
  ·have p4 := g4; try simp only [dd] at p4
   refine k_skip (e_seq (k_seq (k_block (k_seq ?_))))
   refine k_draw hP hC zr ?_
   refine dM ?_
   refine dM ?_
   refine ds (x_indexS hs_l rfl zt zt u23 T.s5 ow ow) ?_
   refine ds (x_load1 rfl zt T.g5 (by first | exact l_ints (whole_row zh rfl) ow ow | exact l_bys (whole_row zh rfl) ow ow | exact l_partI0 (whole_row zh rfl) (by assumption) rfl ow ow rfl)) ?_
   refine dM ?_
   refine dM ?_
   refine ds (x_indexS hs_m rfl zt zt u23 T.s5 ow ow) ?_
   refine ds (x_load1 rfl zt T.g5 (by first | exact l_ints (whole_row zh rfl) ow ow | exact l_bys (whole_row zh rfl) ow ow | exact l_partI0 (whole_row zh rfl) (by assumption) rfl ow ow rfl)) ?_
   refine ds (x_bin rfl zt zt b_neq) ?_
   refine d_done ⟨by kernel_rfl, ?_⟩
   refine e_seq ?_
   refine k_cond zw (fun g6 => ?_) (fun g6 => ?_)
   ·have p6 := g6; try simp only [dd] at p6
    refine k_seq (k_region hP hC (oA ?_))
    refine o_done (e_seq ?_)
    refine k_ret ?_
    refine e_block_ret ?_
    refine e_seq_ret ?_
    refine e_loop_ret ?_
    refine e_block_ret ?_
    refine e_seq_ret ?_
    refine gives_mk (L := [0, 1]) (slots := [4]) (w := 2) (.inr rfl) zr (gcVs_cons zh (gcV_free rfl) gcVs_nil) (gcH_cons (gcO_old (by rfl) zh) (gcH_cons (gcO_old (by rfl) zh) gcH_nil)) zr (by simp only [Tryz.results17, resA, cst, mkE, Tr.get_set, reduceIte, Nat.reduceEqDiff, Nat.reduceAdd] <;> rfl) ?_
    simp only [one, val_same]
    first
     | rw [ne_len ow]
     | rw [ne_ith (i := i) (by assumption)]
     | rw [eq_end ow h2 h3]
   ·have p6 := g6; try simp only [dd] at p6
    refine k_skip (e_block (e_seq (k_region hP hC (oM ?_))))
    refine os (x_bin rfl zt (by rfl) b_add) ?_
    refine oA ?_
    refine o_done ?_
    refine e_loop ?_
    refine ⟨IntKind.i64.wrap (i + 1), (to_mk (L := [0, 1]) (slots := [0, 1, 5]) (w := 2) zr (gcVs_cons zh (gcV_sl hs_l rfl) (gcVs_cons zh (gcV_sl hs_m rfl) (gcVs_cons zh (gcV_free rfl) gcVs_nil))) (gcH_cons (gcO_old (by rfl) zh) (gcH_cons (gcO_old (by rfl) zh) gcH_nil)) zr), ?_, ?_⟩
    ·rw [wr1 ow ow]; exact ⟨by omega, by omega, h2, take_same h0 ow h2 h3 (by assumption)⟩
    ·rw [wr1 ow ow]; omega
  ·have p4 := g4; try simp only [dd] at p4
   refine k_exit ?_
   refine e_seq_exit ?_
   refine e_loop_exit ?_
   refine e_block_eq ?_
   refine e_seq (k_seq (k_region hP hC (oA ?_)))
   refine o_done (e_seq ?_)
   refine k_ret ?_
   refine gives_mk (L := [0, 1]) (slots := [4]) (w := 2) (.inr rfl) zr (gcVs_cons zh (gcV_free rfl) gcVs_nil) (gcH_cons (gcO_old (by rfl) zh) (gcH_cons (gcO_old (by rfl) zh) gcH_nil)) zr (by simp only [Tryz.results17, resA, cst, mkE, Tr.get_set, reduceIte, Nat.reduceEqDiff, Nat.reduceAdd] <;> rfl) ?_
   simp only [one, val_same]
   first
    | rw [ne_len ow]
    | rw [ne_ith (i := i) (by assumption)]
    | rw [eq_end ow h2 h3]
theorem con_same : Con Tryz.prog 17 c_same := con_flat Tryz.func17 rfl fun us cs v new h => by
 unfold spec_same at h
 split at h
 case h_2 => cases h
 rename_i s_l s_m c_l c_m
 split at h
 case isFalse => cases h
 rename_i hc
 try simp only [Bool.and_eq_true] at hc
 obtain ⟨⟨⟨⟨q_l, r_l⟩, q_m⟩, r_m⟩, hok⟩ := hc
 cases h
 have e_l := bys_unints r_l
 have hs_l := slOk_sl (n := (unints c_l).length) q_l zd (by rw [<-bys_len, e_l, Nat.mul_one])
 have e_m := bys_unints r_m
 have hs_m := slOk_sl (n := (unints c_m).length) q_m zd (by rw [<-bys_len, e_m, Nat.mul_one])
 have key := same_m hs_l (isBys_byt r_l) hs_m (isBys_byt r_m) hok
 have hrows : [bys (unints c_l), bys (unints c_m)] = [c_l, c_m] := by rw [e_l, e_m]
 rw [<-hrows]
 exact key
theorem same_c {H : AH} {s_l : Value} {s_m : Value} {l : List Int} {m : List Int} (hr_l : Rd H 1 s_l l.length (bys l)) (hB_l : Byt l) (hr_m : Rd H 1 s_m m.length (bys m)) (hB_m : Byt m) (hok : ok_same l m = true) : c_same [s_l, s_m] H = some (.bool (decide (l = m)), H) := by
 obtain ⟨u_l, a_l, b_l⟩ := hr_l 0
 obtain ⟨u_m, a_m, b_m⟩ := hr_m 1
 exact flatC_at (v := val_same l m) (new := new_same l m) (cl_sl a_l (cl_sl a_m cl_nil)) (by simp only [spec_same, sl_slOk b_l (by rw [bys_len, Nat.mul_one]), isBys_bys hB_l, unints_bys, sl_slOk b_m (by rw [bys_len, Nat.mul_one]), isBys_bys hB_m, hok, Bool.and_self, if_true]) (rfl) (gcV_free rfl)
end Go.Proofs.YtfgmplbclpadbaaGreatDoor
namespace Go.Proofs.YtfgmplbclpadbaaGreatDoor
open Go Go.AM
section
variable {l ds : List Int} {f k i : Int}
def rdN (l : List Int) : Int := if ith l 0 < 128 then -1 - num (dsL (fl l) (flipB (fl l) (ith l 0) - 128) l) else num (dsL (fl l) (flipB (fl l) (ith l 0) - 128) l)
theorem rdN_mag (hB : Byt l) : (rdN l < 0 ↔ ith l 0 < 128) /\ mag (rdN l) = num (dsL (fl l) (flipB (fl l) (ith l 0) - 128) l) := by
 have h0 := num_nonneg (dsL_byt (f := fl l) (k := flipB (fl l) (ith l 0) - 128) hB)
 unfold rdN mag
 by_cases h : ith l 0 < 128
 ·simp only [if_pos h]
  rw [if_pos (by omega)]
  omega
 ·simp only [if_neg h]
  rw [if_neg (by omega)]
  omega
theorem rdN_inR (hB : Byt l) (h : num (dsL (fl l) (flipB (fl l) (ith l 0) - 128) l) <= 9223372036854775807) : inR (rdN l) := by
 have h1 := (rdN_mag hB).2
 have h0 := num_nonneg (dsL_byt (f := fl l) (k := flipB (fl l) (ith l 0) - 128) hB)
 unfold mag at h1
 unfold inR
 split at h1 <;> omega
theorem flip_flip (f d : Int) : flipB f (flipB f d) = d := by unfold flipB; split <;> omega
theorem map_flip (f : Int) (ds : List Int) : (ds.map (flipB f)).map (flipB f) = ds := by
 rw [List.map_map]
 conv => rhs; rw [<-List.map_id ds]
 apply List.map_congr_left
 intro d _
 exact flip_flip f d
end
end Go.Proofs.YtfgmplbclpadbaaGreatDoor
namespace Go.Proofs.YtfgmplbclpadbaaGreatDoor
open Go.AM
set_option maxRecDepth 100000
set_option maxHeartbeats 1000000
set_option maxHeartbeats 8000000
theorem gcV_eq {pos : Nat -> Option Nat} {a b c : Value} (h : a = b) (k : gcV pos 9 b = some c) : gcV pos 9 a = some c := by subst h; exact k
theorem enc_byt {n : Int} (hn : inR n) : Byt (encI n) := by
 rw [enc_eq]
 intro x hx
 have hl := dg_len hn
 rcases List.mem_cons.1 hx with rfl | hx
 ·unfold hd1; split <;> omega
 ·obtain ⟨d, hd, rfl⟩ := List.mem_map.1 hx
  have := dg_byt n d (List.mem_reverse.1 hd)
  unfold sgn; split <;> omega
end Go.Proofs.YtfgmplbclpadbaaGreatDoor
namespace Go.Proofs.YtfgmplbclpadbaaGreatDoor
open Go Go.AM
section
variable {l : List Int} {s : Int}
theorem getI_facts (hB : Byt l) : ((getI l).2.2 = 0 /\ 1 <= (getI l).2.1 /\ (getI l).2.1 <= l.length /\ inR (getI l).1) \/ (((getI l).2.2 = 2 \/ (getI l).2.2 = 3) /\ (getI l).1 = 0 /\ (getI l).2.1 = 0) := by
 rcases Nat.eq_zero_or_pos l.length with h0 | hl
 ·rw [getI_more0 (by omega)]; simp
 ·by_cases h8 : flipB (fl l) (ith l 0) - 128 <= 8
  ·by_cases hm : flipB (fl l) (ith l 0) - 128 < l.length
   ·by_cases hb : num (dsL (fl l) (flipB (fl l) (ith l 0) - 128) l) <= 9223372036854775807
    ·by_cases hz : flipB (fl l) (ith l 0) - 128 <= 0 \/ flipB (fl l) (ith l 1) ≠ 0
     ·have hr := fl_rng hB hl
      left
      rw [gi_ok hB hl rfl h8 hm hz hb]
      exact ⟨rfl, by dsimp only; omega, by dsimp only; omega, rdN_inR hB hb⟩
     ·right
      rw [gi_zero hB hl rfl h8 hm (by omega) (by by_cases q : flipB (fl l) (ith l 1) = 0; exact q; exact absurd (.inr q) hz)]
      simp
    ·rw [gi_big hB hl rfl h8 hm (by omega)]; simp
   ·rw [gi_more hB hl rfl h8 (by omega)]; simp
  ·rw [gi_bad hB hl rfl (by omega)]; simp
theorem getI_at (hB : Byt l) (h : (getI l).2.2 = 0) : 1 <= (getI l).2.1 /\ (getI l).2.1 <= l.length := by
 rcases getI_facts hB with ⟨_, a, b, _⟩ | ⟨a, _⟩
 ·exact ⟨a, b⟩
 ·omega
def cntE (l : List Int) (s : Int) : Int := if (getI l).2.2 ≠ 0 then (getI l).2.2 else if (getI l).1 < 0 then 2 else if (l.length - (getI l).2.1) / s < (getI l).1 then 3 else 0
theorem cnt_err (h : ¬ (getI l).2.2 = 0) : cntE l s = (getI l).2.2 := if_pos h
theorem cnt_neg (h : (getI l).2.2 = 0) (h1 : (getI l).1 < 0) : cntE l s = 2 := by unfold cntE; rw [if_neg (by omega), if_pos h1]
theorem cnt_more (h : (getI l).2.2 = 0) (h1 : 0 <= (getI l).1) (h2 : (l.length - (getI l).2.1) / s < (getI l).1) : cntE l s = 3 := by unfold cntE; rw [if_neg (by omega), if_neg (by omega), if_pos h2]
theorem cnt_ok (h : (getI l).2.2 = 0) (h1 : 0 <= (getI l).1) (h2 : (getI l).1 <= (l.length - (getI l).2.1) / s) : cntE l s = 0 := by unfold cntE; rw [if_neg (by omega), if_neg (by omega), if_neg (by omega)]
theorem cnt_cases (l : List Int) (s : Int) : (cntE l s = 0 /\ (getI l).2.2 = 0 /\ 0 <= (getI l).1 /\ (getI l).1 <= (l.length - (getI l).2.1) / s) \/ cntE l s ≠ 0 := by
 by_cases h : (getI l).2.2 = 0
 ·by_cases h1 : (getI l).1 < 0
  ·rw [cnt_neg h h1]; simp
  ·by_cases h2 : (l.length - (getI l).2.1) / s < (getI l).1
   ·rw [cnt_more h (by omega) h2]; simp
   ·exact .inl ⟨cnt_ok h (by omega) (by omega), h, by omega, by omega⟩
 ·exact .inr (by rw [cnt_err h]; exact h)
theorem cnt_facts (hB : Byt l) (hs : 0 < s) (h : cntE l s = 0) : 0 <= (getI l).1 /\ 1 <= (getI l).2.1 /\ (getI l).2.1 <= l.length /\ (getI l).1 * s <= l.length - (getI l).2.1 := by
 rcases cnt_cases l s with ⟨_, h1, h2, h3⟩ | h1
 ·rcases getI_facts hB with ⟨_, q1, q2, _⟩ | ⟨q, _⟩
  ·refine ⟨h2, q1, q2, ?_⟩
   exact (Int.le_ediv_iff_mul_le hs).1 h3
  ·omega
 ·exact absurd h h1
theorem b_quoS {P : Program} {t : TypeId} {xo yo : Operand} {a b : Int} (h : 0 <= a) (h1 : a <= 9223372036854775807) (hb : 0 < b) : binV P .quo t xo yo (.int .i64 a) (.int .i64 b) = some (.int .i64 (a / b)) := by
 have h2 : 0 <= a / b := Int.ediv_nonneg h (by omega)
 have h3 : a / b <= a := Int.ediv_le_self _ h
 rw [b_quo (by omega), Int.tdiv_eq_ediv_of_nonneg h, IntWalk.i64_in _ (by omega)]
theorem mul_ge {n s d : Int} (hs : 0 < s) (h : n * s <= d) : n <= d / s := (Int.le_ediv_iff_mul_le hs).2 h
end
end Go.Proofs.YtfgmplbclpadbaaGreatDoor
namespace Go.Proofs.YtfgmplbclpadbaaGreatDoor
open Go.AM
set_option maxRecDepth 100000
set_option maxHeartbeats 1000000
set_option maxHeartbeats 4000000
def ok_cp (l : List Int) (s : Int) : Bool := decide (l.length <= 4294967296) && decide (0 < s /\ s <= 16)
def val_cp (l : List Int) (s : Int) : Value := .tuple ⟨[.int .i64 (getI l).1, .int .i64 (getI l).2.1, .int .i64 (cntE l s)]⟩
def new_cp (l : List Int) (s : Int) : List (List Value) := []
def spec_cp : Go.AM.Spec := fun us cs => match us, cs with
 | [s_l, .int .i64 s], [c_l] => if slOk 0 1 c_l s_l && isBys c_l && ok_cp (unints c_l) s then some (val_cp (unints c_l) s, new_cp (unints c_l) s) else none
 | _, _ => none
def c_cp := flatC [.sl 1, .fr] spec_cp
theorem cp_m {s_l : Value} {l : List Int} {s : Int} (hs_l : Sl 0 1 l.length s_l) (hB_l : Byt l) (hok : ok_cp l s = true) : Meets Tryz.prog (.func 49) [s_l, .int .i64 s] (cheap [bys l]) (val_cp l s) (rheap [bys l] (new_cp l s)) := by
 have hP := Fits
 have hC : CallSound Tryz.prog (tabOf [(73, c_gi)]) := tab_sound (tab_cons con_gi tab_end)
 simp only [ok_cp, Bool.and_eq_true, decide_eq_true_eq] at hok
 obtain ⟨hb, hs⟩ := hok
 refine meets_start (sz := 31) hP Tryz.func49 rfl rfl zo (by simp only [Tr.ofList, roRows, Nat.zero_add, Nat.reduceAdd] <;> rfl) zl ?_
 refine k_seq (k_region hP hC (oA ?_))
 refine oA ?_
 refine oA ?_
 refine o_done (e_seq (k_seq (k_region hP hC (oM ?_))))
 refine o_call0 (wA_none rfl) rfl rfl rfl zv zd ?_
 refine ⟨_, _, (tab_hit.trans (gi_c (rd_sl hs_l zd (whole_row zh rfl) (by rw [bys_len, Nat.mul_one]) (bys_free0 l)) hB_l (by rw [ok_gi, decide_eq_true hb]))), ?_⟩
 refine oM ?_
 refine os (x_extract rfl zt rfl) ?_
 refine os (x_extract rfl zt rfl) ?_
 refine os (x_extract rfl zt rfl) ?_
 refine oA ?_
 refine oA ?_
 refine oA ?_
 refine o_done (e_seq (k_seq (k_block (k_seq (k_region hP hC (oM ?_))))))
 refine os (x_bin rfl zt (by rfl) b_neq) ?_
 refine oA ?_
 refine o_done (e_seq ?_)
 refine k_cond zt (fun g2 => ?_) (fun g2 => ?_)
 ·have p2 := g2; try simp only [dd] at p2
  refine k_skip (e_block (e_seq (k_seq (k_region hP hC (oM ?_)))))
  refine oM ?_
  refine oM ?_
  refine oA ?_
  refine oA ?_
  refine oA ?_
  refine o_done (e_seq ?_)
  refine k_ret ?_
  refine gives_mk (L := [0]) (slots := [4, 5, 6]) (w := 1) (.inr rfl) zr (gcVs_cons zh (gcV_free rfl) (gcVs_cons zh (gcV_free rfl) (gcVs_cons zh (gcV_free rfl) gcVs_nil))) (gcH_cons (gcO_old (by rfl) zh) gcH_nil) zr (by simp only [Tryz.results49, resA, cst, mkE, Tr.get_set, reduceIte, Nat.reduceEqDiff, Nat.reduceAdd] <;> rfl) ?_
  simp only [one, val_cp]
  first
   | rw [cnt_err ow]
   | rw [cnt_neg ow ow]
   | rw [cnt_more ow ow (by assumption)]
   | (rw [cnt_ok ow ow (by assumption), show (getI l).2.2 = 0 by omega])
 ·have p2 := g2; try simp only [dd] at p2
  refine k_seq (k_region hP hC (oM ?_))
  refine os (x_bin rfl zt (by rfl) b_lss) ?_
  refine oA ?_
  refine o_done (e_seq ?_)
  refine k_cond zw (fun g4 => ?_) (fun g4 => ?_)
  ·have p4 := g4; try simp only [dd] at p4
   refine k_region hP hC (oA ?_)
   refine o_done (e_block (e_seq (k_seq (k_region hP hC (oM ?_)))))
   refine oM ?_
   refine oM ?_
   refine oA ?_
   refine oA ?_
   refine oA ?_
   refine o_done (e_seq ?_)
   refine k_ret ?_
   refine gives_mk (L := [0]) (slots := [4, 5, 6]) (w := 1) (.inr rfl) zr (gcVs_cons zh (gcV_free rfl) (gcVs_cons zh (gcV_free rfl) (gcVs_cons zh (gcV_free rfl) gcVs_nil))) (gcH_cons (gcO_old (by rfl) zh) gcH_nil) zr (by simp only [Tryz.results49, resA, cst, mkE, Tr.get_set, reduceIte, Nat.reduceEqDiff, Nat.reduceAdd] <;> rfl) ?_
   simp only [one, val_cp]
   first
    | rw [cnt_err ow]
    | rw [cnt_neg ow ow]
    | rw [cnt_more ow ow (by assumption)]
    | (rw [cnt_ok ow ow (by assumption), show (getI l).2.2 = 0 by omega])
  ·have p4 := g4; try simp only [dd] at p4
   refine k_seq (k_region hP hC (oM ?_))
   refine oM ?_
   refine os (x_lenS hs_l rfl rfl zv rfl u23) ?_
   refine oM ?_
   have fz1 := getI_at hB_l ow
   refine os (x_bin rfl zt zt (b_subR ow)) ?_
   refine oM ?_
   refine os (x_bin rfl zt zt (b_quoS ow ow hs.1)) ?_
   refine os (x_bin rfl zt zt b_gtr) ?_
   refine oA ?_
   refine o_done (e_seq ?_)
   refine k_cond zw (fun g6 => ?_) (fun g6 => ?_)
   ·have p6 := g6; try simp only [dd] at p6
    refine k_region hP hC (oA ?_)
    refine o_done (e_block (e_seq (k_seq (k_region hP hC (oM ?_)))))
    refine oM ?_
    refine oM ?_
    refine oA ?_
    refine oA ?_
    refine oA ?_
    refine o_done (e_seq ?_)
    refine k_ret ?_
    refine gives_mk (L := [0]) (slots := [4, 5, 6]) (w := 1) (.inr rfl) zr (gcVs_cons zh (gcV_free rfl) (gcVs_cons zh (gcV_free rfl) (gcVs_cons zh (gcV_free rfl) gcVs_nil))) (gcH_cons (gcO_old (by rfl) zh) gcH_nil) zr (by simp only [Tryz.results49, resA, cst, mkE, Tr.get_set, reduceIte, Nat.reduceEqDiff, Nat.reduceAdd] <;> rfl) ?_
    simp only [one, val_cp]
    first
     | rw [cnt_err ow]
     | rw [cnt_neg ow ow]
     | rw [cnt_more ow ow (by assumption)]
     | (rw [cnt_ok ow ow (by assumption), show (getI l).2.2 = 0 by omega])
   ·have p6 := g6; try simp only [dd] at p6
    refine k_skip (e_block (e_seq (k_seq (k_region hP hC (oM ?_)))))
    refine oM ?_
    refine oM ?_
    refine oA ?_
    refine oA ?_
    refine oA ?_
    refine o_done (e_seq ?_)
    refine k_ret ?_
    refine gives_mk (L := [0]) (slots := [4, 5, 6]) (w := 1) (.inr rfl) zr (gcVs_cons zh (gcV_free rfl) (gcVs_cons zh (gcV_free rfl) (gcVs_cons zh (gcV_free rfl) gcVs_nil))) (gcH_cons (gcO_old (by rfl) zh) gcH_nil) zr (by simp only [Tryz.results49, resA, cst, mkE, Tr.get_set, reduceIte, Nat.reduceEqDiff, Nat.reduceAdd] <;> rfl) ?_
    simp only [one, val_cp]
    first
     | rw [cnt_err ow]
     | rw [cnt_neg ow ow]
     | rw [cnt_more ow ow (by assumption)]
     | (rw [cnt_ok ow ow (by assumption), show (getI l).2.2 = 0 by omega])
theorem con_cp : Con Tryz.prog 49 c_cp := con_flat Tryz.func49 rfl fun us cs v new h => by
 unfold spec_cp at h
 split at h
 case h_2 => cases h
 rename_i s_l s c_l
 split at h
 case isFalse => cases h
 rename_i hc
 try simp only [Bool.and_eq_true] at hc
 obtain ⟨⟨q_l, r_l⟩, hok⟩ := hc
 cases h
 have e_l := bys_unints r_l
 have hs_l := slOk_sl (n := (unints c_l).length) q_l zd (by rw [<-bys_len, e_l, Nat.mul_one])
 have key := cp_m hs_l (isBys_byt r_l) hok
 have hrows : [bys (unints c_l)] = [c_l] := by rw [e_l]
 rw [<-hrows]
 exact key
theorem cp_c {H : AH} {s_l : Value} {l : List Int} {s : Int} (hr_l : Rd H 1 s_l l.length (bys l)) (hB_l : Byt l) (hok : ok_cp l s = true) : c_cp [s_l, .int .i64 s] H = some (val_cp l s, H) := by
 obtain ⟨u_l, a_l, b_l⟩ := hr_l 0
 exact flatC_at (v := val_cp l s) (new := new_cp l s) (cl_sl a_l (cl_fr rfl cl_nil)) (by simp only [spec_cp, sl_slOk b_l (by rw [bys_len, Nat.mul_one]), isBys_bys hB_l, unints_bys, hok, Bool.and_self, if_true]) (rfl) (gcV_tup3F rfl rfl rfl)
end Go.Proofs.YtfgmplbclpadbaaGreatDoor
namespace Go.Proofs.YtfgmplbclpadbaaGreatDoor
open Go.AM
set_option maxRecDepth 100000
set_option maxHeartbeats 1000000
set_option maxHeartbeats 4000000
theorem x_convB {P : Program} {call : Call'} {e : Tr Value} {o : Oper} {S T el : TypeId} {x : Operand} {t : Tr AObj} {K : Nat -> Prop} {s : Value} {l : List Int} {nx wr : Nat} (hb : BV t K s l) (ho : o.op = .convert S T x) (hx : ev e x = some s) (hs : P.underlying S = some (.slice el)) (he : P.underlying el = some (.int .u8)) (hd : P.underlying T = some .string) :
  doOp P call e ⟨t, nx, wr⟩ o = some (.string (strB l), ⟨t, nx, wr⟩) := by
 rcases hb with ⟨rfl, rfl⟩ | ⟨id, off, q, rfl, hl⟩
 ·rw [do_op (by rw [ho]; simp), ho]
  simp only [aop, hx, convV, hs, hd, he]
  rfl
 ·exact x_convBS ho hx hs he hd (hl _ _ _ fun _ _ => rfl)
def gbS (l : List Int) : ByteArray := if cntE l 1 = 0 then strB ((l.drop (getI l).2.1.toNat).take (getI l).1.toNat) else .empty
def gbN (l : List Int) : Int := if cntE l 1 = 0 then (getI l).2.1 + (getI l).1 else 0
def val_gb (l : List Int) : Value := .tuple ⟨[.string (gbS l), .int .i64 (gbN l), .int .i64 (cntE l 1)]⟩
theorem gb_no {l : List Int} (h : ¬ cntE l 1 = 0) : one [.string .empty, .int .i64 0, .int .i64 (cntE l 1)] = val_gb l := by
 unfold val_gb gbS gbN
 rw [if_neg h, if_neg h]; rfl
theorem gb_yes {l : List Int} {n m : Nat} (h : cntE l 1 = 0) (hn : n = (getI l).2.1.toNat) (hm : m = (getI l).1.toNat) : one [.string (strB ((l.drop n).take m)), .int .i64 ((getI l).2.1 + (getI l).1), .int .i64 0] = val_gb l := by
 subst hn; subst hm
 unfold val_gb gbS gbN
 rw [if_pos h, if_pos h, h]; rfl
def ok_gbp (l : List Int) : Bool := decide (l.length <= 4294967296)
def new_gbp (l : List Int) : List (List Value) := []
def spec_gbp : Go.AM.Spec := fun us cs => match us, cs with
 | [s_l], [c_l] => if slOk 0 1 c_l s_l && isBys c_l && ok_gbp (unints c_l) then some (val_gb (unints c_l), new_gbp (unints c_l)) else none
 | _, _ => none
def c_gbp := flatC [.sl 1] spec_gbp
theorem gbp_m {s_l : Value} {l : List Int} (hs_l : Sl 0 1 l.length s_l) (hB_l : Byt l) (hok : ok_gbp l = true) : Meets Tryz.prog (.func 35) [s_l] (cheap [bys l]) (val_gb l) (rheap [bys l] (new_gbp l)) := by
 have hP := Fits
 have hC : CallSound Tryz.prog (tabOf [(49, c_cp)]) := tab_sound (tab_cons con_cp tab_end)
 simp only [ok_gbp, Bool.and_eq_true, decide_eq_true_eq] at hok
 have hb := hok
 refine meets_start (sz := 27) hP Tryz.func35 rfl rfl zo (by simp only [Tr.ofList, roRows, Nat.zero_add, Nat.reduceAdd] <;> rfl) zl ?_
 refine k_nm (fun t nx hq hx0 => ?_)
 subst hq
 have r0 : t.get 0 = some (.row (bys l) 0 BIG true (bys l).length) := hx0 0 ow
 clear hx0
 have hBg : 1000 <= BIG := by unfold BIG; omega
 ·skip
  refine k_seq (k_region hP hC (oA ?_))
  refine oA ?_
  refine oA ?_
  refine o_done (e_seq (k_seq (k_region hP hC (oM ?_))))
  refine o_call0 (wA_none rfl) rfl rfl rfl zv zd ?_
  refine ⟨_, _, (tab_hit.trans (cp_c (rd_sl hs_l zd (whole_row r0 rfl) (by rw [bys_len, Nat.mul_one]) (bys_free0 l)) hB_l (by rw [ok_cp, Bool.and_eq_true, decide_eq_true hb]; exact ⟨rfl, by decide⟩))), ?_⟩
  refine oM ?_
  refine os (x_extract rfl zt rfl) ?_
  refine os (x_extract rfl zt rfl) ?_
  refine os (x_extract rfl zt rfl) ?_
  refine oA ?_
  refine oA ?_
  refine oA ?_
  refine o_done (e_seq (k_seq (k_seq (k_region hP hC (oM ?_)))))
  refine os (x_bin rfl zt (by rfl) b_neq) ?_
  refine o_done (e_seq ?_)
  refine k_cond zt (fun g2 => ?_) (fun g2 => ?_)
  ·have p2 := g2; try simp only [dd] at p2
   refine k_seq (k_region hP hC (oM ?_))
   refine oA ?_
   refine oA ?_
   refine oA ?_
   refine o_done (e_seq ?_)
   refine k_ret ?_
   refine e_seq_ret ?_
   refine gives_mk2 (L := [0]) (w := 1) (.inr rfl) gcOk_one (by simp only [Tryz.results35, resA, Tr.get_set, reduceIte, Nat.reduceEqDiff, Nat.reduceAdd, g2] <;> rfl) ?_ (gcH_cons (gcO_old (by rfl) r0) gcH_nil) (Nat.ble_eq_true_of_le (by show 1 <= BIG; omega))
   refine gcV_eq ?_ (gcV_tup3F rfl rfl rfl)
   first
    | exact gb_no ow
    | exact gb_yes hz rfl ow
  ·have p2 := g2; try simp only [dd] at p2
   refine k_skip (e_seq (k_seq ?_))
   have hz : cntE l 1 = 0 := by omega
   have hc := cnt_facts hB_l zd hz
   rw [Int.mul_one] at hc
   have hbv : BV t (fun i => i = 0) s_l l := bv_sl hs_l rfl r0
   obtain ⟨w, bw, hsl⟩ := x_sliceB (P := Tryz.prog) (T := 23) (lo := some (.tmp 18)) (hi := some (.tmp 21)) (i := (getI l).2.1) (j := (getI l).2.1 + (getI l).1) hbv u23 T.s5 ow ow ow (fun q => by cases q) (fun q => by cases q)
   refine k_region hP hC (oM ?_)
   refine oM ?_
   refine oM ?_
   refine oM ?_
   refine os (x_bin rfl zt zt (b_addR ow)) ?_
   refine os (hsl rfl zt (fun a q => by cases q; exact zt) (fun a q => by cases q; exact zt)) ?_
   refine os (x_convB bw rfl zt u23 u5 u9) ?_
   refine oM ?_
   refine oM ?_
   refine os (x_bin rfl zt zt (b_addR ow)) ?_
   refine oA ?_
   refine oA ?_
   refine oA ?_
   refine o_done (e_seq ?_)
   refine k_ret ?_
   refine gives_mk2 (L := [0]) (w := 1) (.inr rfl) gcOk_one (by simp only [Tryz.results35, resA, Tr.get_set, reduceIte, Nat.reduceEqDiff, Nat.reduceAdd, g2] <;> rfl) ?_ (gcH_cons (gcO_old (by rfl) r0) gcH_nil) (Nat.ble_eq_true_of_le (by show 1 <= BIG; omega))
   refine gcV_eq ?_ (gcV_tup3F rfl rfl rfl)
   first
    | exact gb_no ow
    | exact gb_yes hz rfl ow
theorem con_gbp : Con Tryz.prog 35 c_gbp := con_flat Tryz.func35 rfl fun us cs v new h => by
 unfold spec_gbp at h
 split at h
 case h_2 => cases h
 rename_i s_l c_l
 split at h
 case isFalse => cases h
 rename_i hc
 try simp only [Bool.and_eq_true] at hc
 obtain ⟨⟨q_l, r_l⟩, hok⟩ := hc
 cases h
 have e_l := bys_unints r_l
 have hs_l := slOk_sl (n := (unints c_l).length) q_l zd (by rw [<-bys_len, e_l, Nat.mul_one])
 have key := gbp_m hs_l (isBys_byt r_l) hok
 have hrows : [bys (unints c_l)] = [c_l] := by rw [e_l]
 rw [<-hrows]
 exact key
theorem gbp_c {H : AH} {s_l : Value} {l : List Int} (hr_l : Rd H 1 s_l l.length (bys l)) (hB_l : Byt l) (hok : ok_gbp l = true) : c_gbp [s_l] H = some (val_gb l, H) := by
 obtain ⟨u_l, a_l, b_l⟩ := hr_l 0
 exact flatC_at (v := val_gb l) (new := new_gbp l) (cl_sl a_l cl_nil) (by simp only [spec_gbp, sl_slOk b_l (by rw [bys_len, Nat.mul_one]), isBys_bys hB_l, unints_bys, hok, Bool.and_self, if_true]) (rfl) (gcV_tup3F rfl rfl rfl)
end Go.Proofs.YtfgmplbclpadbaaGreatDoor
namespace Go.Proofs.YtfgmplbclpadbaaGreatDoor
open Go Go.AM
abbrev Rdr := List Int -> Value × Int × Int
def rdL (rd : Rdr) (l : List Int) : Nat -> Int -> List Value -> List Value × Int × Int
 | 0, at', acc => (acc, at', 0)
 | k + 1, at', acc => if (rd (l.drop at'.toNat)).2.2 = 0 then rdL rd l k (at' + (rd (l.drop at'.toNat)).2.1) (acc ++ [(rd (l.drop at'.toNat)).1]) else ([], 0, (rd (l.drop at'.toNat)).2.2)
def getL (rd : Rdr) (l : List Int) : List Value × Int × Int := if cntE l 1 = 0 then rdL rd l (getI l).1.toNat (getI l).2.1 [] else ([], 0, cntE l 1)
def rdI : Rdr := fun l => (.int .i64 (getI l).1, (getI l).2.1, (getI l).2.2)
def rdS : Rdr := fun l => (.string (gbS l), gbN l, cntE l 1)
structure RdOk (rd : Rdr) : Prop where
 at' : ∀ l, Byt l -> (rd l).2.2 = 0 -> 0 <= (rd l).2.1 /\ (rd l).2.1 <= l.length
 free : ∀ l, free0 (rd l).1 = true
 one : ∀ l, oneC (rd l).1 = true
theorem rdI_ok : RdOk rdI := ⟨fun l hB h => by have := getI_at hB h; exact ⟨by show 0 <= (getI l).2.1; omega, by show (getI l).2.1 <= _; omega⟩, fun _ => rfl, fun _ => rfl⟩
theorem rdS_ok : RdOk rdS := ⟨fun l hB h => by
 have hz : cntE l 1 = 0 := h
 have hc := cnt_facts hB (by decide) hz
 have e : (rdS l).2.1 = (getI l).2.1 + (getI l).1 := by show gbN l = _; unfold gbN; rw [if_pos hz]
 rw [e]
 omega, fun _ => rfl, fun _ => rfl⟩
section
variable {rd : Rdr} {l : List Int} {k n : Int} {at' : Int} {acc : List Value} {R : List Value × Int × Int}
theorem getL_no (h : ¬ cntE l 1 = 0) : getL rd l = ([], 0, cntE l 1) := if_neg h
theorem getL_yes (h : cntE l 1 = 0) : rdL rd l ((getI l).1 - 0).toNat (getI l).2.1 [] = getL rd l := by
 unfold getL
 rw [if_pos h, Int.sub_zero]
theorem rdL_no (h : rdL rd l (n - k).toNat at' acc = R) (hk : k < n) (he : ¬ (rd (l.drop at'.toNat)).2.2 = 0) : R = ([], 0, (rd (l.drop at'.toNat)).2.2) := by
 subst h
 rw [show (n - k).toNat = (n - k - 1).toNat + 1 by omega, rdL, if_neg he]
theorem rdL_yes (h : rdL rd l (n - k).toNat at' acc = R) (hk : k < n) (he : (rd (l.drop at'.toNat)).2.2 = 0) : rdL rd l (n - (k + 1)).toNat (at' + (rd (l.drop at'.toNat)).2.1) (acc ++ [(rd (l.drop at'.toNat)).1]) = R := by
 subst h
 rw [show (n - k).toNat = (n - (k + 1)).toNat + 1 by omega, rdL, if_pos he]
theorem rdL_end (h : rdL rd l (n - k).toNat at' acc = R) (hk : n <= k) : R = (acc, at', 0) := by
 subst h
 rw [show (n - k).toNat = 0 by omega, rdL]
theorem rdL_facts (hr : RdOk rd) (hB : Byt l) : ∀ (k : Nat) (at' : Int) (acc : List Value), 0 <= at' -> at' <= l.length -> ((rdL rd l k at' acc).2.2 = 0 -> 0 <= (rdL rd l k at' acc).2.1 /\ (rdL rd l k at' acc).2.1 <= l.length /\ (rdL rd l k at' acc).1.length = acc.length + k) /\ ((rdL rd l k at' acc).2.2 ≠ 0 -> (rdL rd l k at' acc).2.1 = 0 /\ (rdL rd l k at' acc).1 = [])
 | 0, at', acc, h0, h1 => by
  rw [rdL]
  exact ⟨fun _ => ⟨h0, h1, rfl⟩, fun h => absurd rfl h⟩
 | k + 1, at', acc, h0, h1 => by
  rw [rdL]
  by_cases he : (rd (l.drop at'.toNat)).2.2 = 0
  ·rw [if_pos he]
   have h2 := hr.at' _ (byt_drop hB at'.toNat) he
   rw [List.length_drop] at h2
   have ih := rdL_facts hr hB k (at' + (rd (l.drop at'.toNat)).2.1) (acc ++ [(rd (l.drop at'.toNat)).1]) (by omega) (by omega)
   refine ⟨fun h => ?_, ih.2⟩
   have := ih.1 h
   rw [List.length_append, List.length_singleton] at this
   omega
  ·rw [if_neg he]
   exact ⟨fun h => absurd h he, fun _ => ⟨rfl, rfl⟩⟩
theorem getL_facts (hr : RdOk rd) (hB : Byt l) : ((getL rd l).2.2 = 0 -> 0 <= (getL rd l).2.1 /\ (getL rd l).2.1 <= l.length) /\ ((getL rd l).2.2 ≠ 0 -> (getL rd l).2.1 = 0 /\ (getL rd l).1 = []) := by
 unfold getL
 by_cases h : cntE l 1 = 0
 ·rw [if_pos h]
  have hc := cnt_facts hB (by decide) h
  have := rdL_facts hr hB (getI l).1.toNat (getI l).2.1 [] (by omega) (by omega)
  exact ⟨fun q => ⟨(this.1 q).1, (this.1 q).2.1⟩, this.2⟩
 ·rw [if_neg h]
  exact ⟨fun q => absurd q h, fun _ => ⟨rfl, rfl⟩⟩
end
def GLpost (rd : Rdr) (l : List Int) (t : Tr AObj) (nx wr : Nat) (v : Value) (h' : AH) : Prop := ∃ t' nx' wr', h' = ⟨t', nx', wr'⟩ /\ Fr t nx wr t' nx' wr' (2 * l.length + 10) /\ ∃ w, v = .tuple ⟨[w, .int .i64 (getL rd l).2.1, .int .i64 (getL rd l).2.2]⟩ /\ ∃ S, AccP t' nx nx' S 1 w (getL rd l).1.length (getL rd l).1
def GLR (rd : Rdr) : List Value -> AH -> Value -> AH -> Prop := fun args h v h' => ∀ K s l, args = [s] -> BV h.t K s l -> GLpost rd l h.t h.next h.wr v h'
end Go.Proofs.YtfgmplbclpadbaaGreatDoor
namespace Go.Proofs.YtfgmplbclpadbaaGreatDoor
open Go.AM
set_option maxRecDepth 100000
set_option maxHeartbeats 1000000
set_option maxHeartbeats 8000000
noncomputable def c_gsp := cEx Tryz.prog 33 (GLR rdS)
theorem con_gsp : Con Tryz.prog 33 c_gsp := con_ex Tryz.func33 rfl
theorem gsp_c {t : Tr AObj} {K : Nat -> Prop} {nx wr : Nat} {s : Value} {l : List Int} (hbv : BV t K s l) (hK : ∀ i, K i -> i < nx) (hB : Byt l) (hb : l.length <= 4294967296) (hN : nx + 2 * l.length + 100 <= BIG) (hwr : wr <= BIG) : ∃ v h', c_gsp [s] ⟨t, nx, wr⟩ = some (v, h') /\ GLpost rdS l t nx wr v h' := by
 have hP := Fits
 have hC : CallSound Tryz.prog (tabOf [(49, c_cp), (35, c_gbp)]) := tab_sound (tab_cons con_cp (tab_cons con_gbp tab_end))
 suffices key : SureK Tryz.prog ⟨t, nx, wr⟩ _ [] _ (EndR Tryz.prog _ (GLR rdS [s] ⟨t, nx, wr⟩)) by
  obtain ⟨v, h', a, b⟩ := sure_start (R := GLR rdS) (sz := 45) Tryz.func33 rfl rfl zo key
  exact ⟨v, h', a, b K s l rfl hbv⟩
 refine s_seq (s_region hP hC (oA ?_))
 refine oA ?_
 refine oA ?_
 refine o_done (se_seq (s_seq (s_region hP hC (oM ?_))))
 refine o_call0 (wA_none rfl) rfl rfl rfl zv zd ?_
 refine ⟨_, _, (tab_hit.trans (cp_c hbv.rd hB (by rw [ok_cp, Bool.and_eq_true, decide_eq_true hb]; exact ⟨rfl, by decide⟩))), ?_⟩
 refine oM ?_
 refine os (x_extract rfl zt rfl) ?_
 refine os (x_extract rfl zt rfl) ?_
 refine os (x_extract rfl zt rfl) ?_
 refine oA ?_
 refine oA ?_
 refine oA ?_
 refine o_done (se_seq (s_seq (s_seq (s_region hP hC (oM ?_)))))
 refine os (x_bin rfl zt (by rfl) b_neq) ?_
 refine o_done (se_seq ?_)
 refine s_cond zt (fun g2 => ?_) (fun g2 => ?_)
 ·have p2 := g2; try simp only [dd] at p2
  refine s_seq (s_region hP hC (oM ?_))
  refine oA ?_
  refine oA ?_
  refine oA ?_
  refine o_done (se_seq ?_)
  refine s_ret ?_
  refine se_seq_ret ?_
  refine ⟨.inr rfl, _, (by simp only [Tryz.results33, resA, Tr.get_set, reduceIte, Nat.reduceEqDiff, Nat.reduceAdd, g2] <;> rfl), fun K' s2 l2 hs2 hb2 => ?_⟩
  cases hs2
  have hl2 := hbv.uniq hb2
  rw [hl2]
  have hR : getL rdS l = _ := getL_no ow
  refine ⟨_, _, _, rfl, Fr.refl, _, by rw [hR]; rfl, by rw [hR]; exact ⟨_, .start⟩⟩
 ·have p2 := g2; try simp only [dd] at p2
  refine s_skip (se_seq (s_seq ?_))
  have hz : cntE l 1 = 0 := by omega
  have hc := cnt_facts hB zd hz
  rw [Int.mul_one] at hc
  refine s_region hP hC (oA ?_)
  refine o_done (se_seq (s_seq (s_seq (s_region hP hC (oM ?_)))))
  refine os (x_move rfl (by rfl)) ?_
  refine o_done (se_seq (s_block ?_))
  refine s_loop (α := Int × List Value × Int) (fun z s' => ∃ v e t1 nx1 wq1 S, s' = ⟨e, 45, ⟨t1, nx1, wq1⟩⟩ /\ e.get 0 = some (s) /\ e.get 21 = some (.int .i64 (getI l).1) /\ e.get 6 = some (.int .i64 z.2.2) /\ e.get 8 = some (v) /\ e.get 22 = some (.int .i64 z.1) /\ 0 <= z.1 /\ z.1 <= (getI l).1 /\ 0 <= z.2.2 /\ z.2.2 <= l.length /\ z.2.1.length = z.1 /\ rdL rdS l ((getI l).1 - z.1).toNat z.2.2 z.2.1 = getL rdS l /\ AccP t1 nx nx1 S 1 v z.2.1.length z.2.1 /\ nx <= nx1 /\ nx1 <= nx + 2 * z.2.1.length /\ min wr nx <= wq1 /\ wq1 <= wr /\ (∀ id, id < nx -> t1.get id = t.get id)) (fun z => ((getI l).1 - z.1).toNat) (0, [], (getI l).2.1) ⟨_, _, _, _, _, _, rfl, zh, zh, zh, zh, zh, by dsimp only; omega, by dsimp only; omega, by dsimp only; omega, by dsimp only; omega, rfl, getL_yes hz, .start, by omega, by omega, by omega, by omega, fun _ _ => rfl⟩ ?_
  rintro ⟨k, acc, at'⟩ s' ⟨v, e, t1, nx1, wq1, S, rfl, heb0, heb21, heb6, heb8, heb22, k0, k1, p0, p1, hal, hD, aA, n0, nb, w0, w1, hx1⟩
  dsimp only at heb6 heb22 k0 k1 p0 p1 hal hD aA nb
  have noA := aA.no
  obtain ⟨w, bw, hsl⟩ := x_sliceB (P := Tryz.prog) (T := 23) (lo := some (.tmp 26)) (hi := none) (i := at') (j := l.length) hbv u23 T.s5 ow ow ow (fun q => by cases q) (fun _ => rfl)
  rw [List.take_of_length_le (by rw [List.length_drop]; omega)] at bw
  have hBd : Byt (l.drop at'.toNat) := byt_drop hB _
  have hbd : (l.drop at'.toNat).length <= 4294967296 := by rw [List.length_drop]; omega
  refine s_seq (s_region hP hC ?_)
  refine os (x_bin rfl za za b_lss) ?_
  refine o_done (se_seq (s_seq ?_))
  refine s_cond za (fun g4 => ?_) (fun g4 => ?_)
  ·have p4 := g4; try simp only [dd] at p4
   refine s_skip (se_seq (s_seq (s_block (s_seq (s_region hP hC (oM ?_))))))
   refine oM ?_
   refine os (hsl rfl za (fun a q => by cases q; exact za) (fun a q => by cases q)) ?_
   refine o_call0 (wA_none rfl) rfl rfl rfl (by simp only [evs, ev_tmp, Tr.get_set, reduceIte, Nat.reduceEqDiff, Nat.reduceAdd, heb0, heb21, heb6, heb8, heb22, g4] <;> rfl) zd ?_
   refine ⟨_, _, ((tab_miss zd).trans (tab_hit.trans (gbp_c (bw.at (fun i q => hx1 i (hK i q))) hBd (by rw [ok_gbp, decide_eq_true hbd])))), ?_⟩
   refine oM ?_
   refine os (x_extract rfl za rfl) ?_
   refine os (x_extract rfl za rfl) ?_
   refine os (x_extract rfl za rfl) ?_
   refine oA ?_
   refine oA ?_
   refine oA ?_
   refine o_done (se_seq (s_seq (s_seq (s_region hP hC (oM ?_)))))
   refine os (x_bin rfl za (by rfl) b_neq) ?_
   refine o_done (se_seq ?_)
   refine s_cond za (fun g6 => ?_) (fun g6 => ?_)
   ·have p6 := g6; try simp only [dd] at p6
    refine s_seq (s_region hP hC (oM ?_))
    refine oA ?_
    refine oA ?_
    refine oA ?_
    refine o_done (se_seq ?_)
    refine s_ret ?_
    refine se_seq_ret ?_
    refine se_block_ret ?_
    refine se_seq_ret ?_
    refine se_loop_ret ?_
    refine se_block_ret ?_
    refine se_seq_ret ?_
    refine ⟨.inr rfl, _, (by simp only [Tryz.results33, resA, Tr.get_set, reduceIte, Nat.reduceEqDiff, Nat.reduceAdd, heb0, heb21, heb6, heb8, heb22, g4, g6] <;> rfl), fun K' s2 l2 hs2 hb2 => ?_⟩
    cases hs2
    have hl2 := hbv.uniq hb2
    rw [hl2]
    first
     | (have hR : getL rdS l = _ := rdL_end hD ow; exact ⟨_, _, _, rfl, ⟨by show nx <= nx1; omega, by show nx1 <= nx + (2 * l.length + 10); omega, by show min wr nx <= wq1; omega, by show wq1 <= wr; omega, fun id (hid : id < nx) => hx1 id hid⟩, _, by rw [hR]; rfl, by rw [hR]; exact ⟨_, AccP.low aA (Nat.le_refl _)⟩⟩)
     | (have hR : getL rdS l = _ := rdL_no hD ow (by assumption); exact ⟨_, _, _, rfl, ⟨by show nx <= nx1; omega, by show nx1 <= nx + (2 * l.length + 10); omega, by show min wr nx <= wq1; omega, by show wq1 <= wr; omega, fun id (hid : id < nx) => hx1 id hid⟩, _, by rw [hR]; rfl, by rw [hR]; exact ⟨_, .start⟩⟩)
   ·have p6 := g6; try simp only [dd] at p6
    refine s_skip (se_seq (s_region hP hC (oM ?_)))
    refine oM ?_
    have he : (rdS (l.drop at'.toNat)).2.2 = 0 := by show cntE _ 1 = 0; omega
    have hu := rdS_ok.at' _ hBd he
    rw [List.length_drop] at hu
    have hu1 : (rdS (l.drop at'.toNat)).2.1 = gbN (l.drop at'.toNat) := rfl
    refine os (y_bsliceV rfl za rfl u55 T.s9 T.z9 rfl rfl) ?_
    refine o_appS aA ow (fun x hs => by rw [Tr.get_set, if_neg (by have := aA.bnd x hs; omega)]) ow (wA_none rfl) rfl rfl rfl (by simp only [evs, ev_tmp, Tr.get_set, reduceIte, Nat.reduceEqDiff, Nat.reduceAdd, heb0, heb21, heb6, heb8, heb22, g4, g6] <;> rfl) rfl rfl zr (cells_row u55 T.s9 (l_all (whole_row (by (repeat (first | rw [gn ow] | rw [hx1 _ ow])) <;> first | rfl | assumption | (rw [gp ow]; done) | (rw [gp ow]; rfl)) rfl) rfl)) u55 T.i55 zd rfl ow (by unfold BIG; omega) rfl zd zd zd (fun v1 t1 w1 b11 b21 a1 k1 => ?_)
    refine oM ?_
    refine oM ?_
    refine os (x_bin rfl za za (b_addR ow)) ?_
    refine oA ?_
    refine oA ?_
    refine o_done (se_block (se_seq (s_region hP hC ?_)))
    refine os (x_bin rfl za (by rfl) b_add) ?_
    refine oM ?_
    refine o_done ?_
    refine se_loop ?_
    have hw1 : IntKind.i64.wrap (k + 1) = k + 1 := wr1 ow ow
    have e1 : (acc ++ [(rdS (l.drop at'.toNat)).1]).length = acc.length + 1 := by rw [List.length_append]; rfl
    refine ⟨(k + 1, acc ++ [(rdS (l.drop at'.toNat)).1], at' + (rdS (l.drop at'.toNat)).2.1), ⟨v1, _, _, _, _, _, rfl, za, za, za, za, (by simp only [Tr.get_set, reduceIte, Nat.reduceEqDiff, Nat.reduceAdd, hw1, heb0, heb21, heb6, heb8, heb22, g4, g6] <;> rfl), by dsimp only; omega, by dsimp only; omega, by dsimp only; omega, by dsimp only; omega, by dsimp only; rw [e1]; omega, rdL_yes hD ow he, by dsimp only; rw [e1]; exact a1, by omega, by dsimp only; rw [e1]; omega, by omega, by omega, fun id hid => by (repeat (first | rw [gn ow] | rw [k1 _ (noA _ ow) ow] | rw [hx1 _ ow])) <;> first | rfl | assumption | (rw [gp ow]; done) | (rw [gp ow]; rfl)⟩, by dsimp only; omega⟩
  ·have p4 := g4; try simp only [dd] at p4
   refine s_exit ?_
   refine se_seq_exit ?_
   refine se_loop_exit ?_
   refine se_block_eq (se_seq (s_seq (s_region hP hC (oM ?_))))
   refine oM ?_
   refine oA ?_
   refine oA ?_
   refine oA ?_
   refine o_done (se_seq ?_)
   refine s_ret ?_
   refine ⟨.inr rfl, _, (by simp only [Tryz.results33, resA, Tr.get_set, reduceIte, Nat.reduceEqDiff, Nat.reduceAdd, heb0, heb21, heb6, heb8, heb22, g4] <;> rfl), fun K' s2 l2 hs2 hb2 => ?_⟩
   cases hs2
   have hl2 := hbv.uniq hb2
   rw [hl2]
   first
    | (have hR : getL rdS l = _ := rdL_end hD ow; exact ⟨_, _, _, rfl, ⟨by show nx <= nx1; omega, by show nx1 <= nx + (2 * l.length + 10); omega, by show min wr nx <= wq1; omega, by show wq1 <= wr; omega, fun id (hid : id < nx) => hx1 id hid⟩, _, by rw [hR]; rfl, by rw [hR]; exact ⟨_, AccP.low aA (Nat.le_refl _)⟩⟩)
    | (have hR : getL rdS l = _ := rdL_no hD ow (by assumption); exact ⟨_, _, _, rfl, ⟨by show nx <= nx1; omega, by show nx1 <= nx + (2 * l.length + 10); omega, by show min wr nx <= wq1; omega, by show wq1 <= wr; omega, fun id (hid : id < nx) => hx1 id hid⟩, _, by rw [hR]; rfl, by rw [hR]; exact ⟨_, .start⟩⟩)
end Go.Proofs.YtfgmplbclpadbaaGreatDoor
