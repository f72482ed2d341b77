/-
  The types of this seat's program, as AM needs them.
-/
import Derived.Test.YtlhlkjhjoalhoaaGreatDoorCBa
import Derived.Test.YtlhlkjhjoalhoaaGreatDoorCA3
import Derived.KernelRfl
set_option linter.unusedSimpArgs false
set_option linter.unusedVariables false
namespace Go.Proofs.YtlhlkjhjoalhoaaGreatDoor
open Go.AM
set_option maxRecDepth 100000
theorem zt {p : Prop} (h : p := by simp only [Tr.get_set, reduceIte, Nat.reduceEqDiff, Nat.reduceAdd, ev_tmp] <;> rfl) : p := h
theorem za {p : Prop} (h : p := by (try simp only [Tr.get_set, reduceIte, Nat.reduceEqDiff, Nat.reduceAdd, ev_tmp]) <;> first | rfl | assumption) : p := h
theorem zv {p : Prop} (h : p := by simp only [evs, ev_tmp, Tr.get_set, reduceIte, Nat.reduceEqDiff, Nat.reduceAdd] <;> rfl) : p := h
theorem zp {p : Prop} (h : p := by simp only [evP, ev_tmp, Tr.get_set, reduceIte, Nat.reduceEqDiff, Nat.reduceAdd] <;> rfl) : p := h
theorem zh {p : Prop} (h : p := by simp only [Tr.get_set, reduceIte, Nat.reduceEqDiff, Nat.reduceAdd] <;> rfl) : p := h
theorem zl {p : Prop} (h : p := by simp only [roRows, List.length_cons, List.length_nil, Nat.zero_add, Nat.reduceAdd] <;> rfl) : p := h
theorem zm {p : Prop} (h : p := by simp only [mkE] <;> rfl) : p := h
theorem zo {p : Prop} (h : p := by simp only [Tr.ofList, Nat.zero_add, Nat.reduceAdd] <;> rfl) : p := h
theorem zc {p : Prop} (h : p := by first | assumption | (apply cf_part; (first | assumption | (exact cf_nth (by assumption) (by omega) (by omega))); rfl) | (exact cf_nth (by assumption) (by omega) (by omega))) : p := h
theorem zr {p : Prop} (h : p := by kernel_rfl) : p := h
theorem T.s3 : szOf Tryz.prog 3 = some 1 := by kernel_rfl
theorem T.g3 : aggOf Tryz.prog 3 = some false := by kernel_rfl
theorem T.z3 : (Tryz.prog.info? 3).bind (·.zero) = some (.int .i64 0) := by kernel_rfl
theorem T.s4 : szOf Tryz.prog 4 = some 1 := by kernel_rfl
theorem T.g4 : aggOf Tryz.prog 4 = some false := by kernel_rfl
theorem T.z4 : (Tryz.prog.info? 4).bind (·.zero) = some (.bool false) := by kernel_rfl
theorem T.s22 : szOf Tryz.prog 22 = some 1 := by kernel_rfl
theorem T.s23 : szOf Tryz.prog 23 = some 1 := by kernel_rfl
theorem T.i23 : TyI Tryz.prog 26 3 24 := ⟨_, Tryz.type26, rfl, rfl, rfl⟩
theorem T.s26 : szOf Tryz.prog 26 = some 3 := by kernel_rfl
theorem T.g26 : aggOf Tryz.prog 26 = some true := by kernel_rfl
def T.K26 : List Lk := [.int .i64, .int .i64, .bool]
theorem T.z26 : (Tryz.prog.info? 26).bind (·.zero) = some (.agg ⟨[.int .i64 0, .int .i64 0, .bool false]⟩) := by kernel_rfl
theorem T.i28 : TyI Tryz.prog 34 3 24 := ⟨_, Tryz.type34, rfl, rfl, rfl⟩
theorem T.s34 : szOf Tryz.prog 34 = some 3 := by kernel_rfl
theorem T.g34 : aggOf Tryz.prog 34 = some true := by kernel_rfl
def T.K34 : List Lk := [.int .i64, .int .i64, .bool]
theorem T.z34 : (Tryz.prog.info? 34).bind (·.zero) = some (.agg ⟨[.int .i64 0, .int .i64 0, .bool false]⟩) := by kernel_rfl
theorem T.s36 : szOf Tryz.prog 36 = some 2 := by kernel_rfl
theorem T.g36 : aggOf Tryz.prog 36 = some true := by kernel_rfl
def T.K36 : List Lk := [.int .i64, .int .i64]
theorem T.f36 : flatTy Tryz.prog 20 36 = some T.K36 := by kernel_rfl
theorem T.z36 : (Tryz.prog.info? 36).bind (·.zero) = some (.agg ⟨[.int .i64 0, .int .i64 0]⟩) := by kernel_rfl
end Go.Proofs.YtlhlkjhjoalhoaaGreatDoor
