/-
  The types of this seat's program, as AM needs them.
-/
import Derived.Test.YtohhcnehcjpekaaProg
import Derived.KernelRfl
import Derived.Test.YtohhcnehcjpekaaJA3
namespace Go.Proofs.Ytohhcnehcjpekaa
open Go.AM
set_option maxRecDepth 100000
theorem zt {p : Prop} (h : p := by simp only [Tr.get_set, reduceIte, Nat.reduceEqDiff, Nat.reduceAdd, ev_tmp] <;> rfl) : p := h
theorem za {p : Prop} (h : p := by (try simp only [Tr.get_set, reduceIte, Nat.reduceEqDiff, Nat.reduceAdd, ev_tmp]) <;> first | rfl | assumption) : p := h
theorem zv {p : Prop} (h : p := by simp only [evs, ev_tmp, Tr.get_set, reduceIte, Nat.reduceEqDiff, Nat.reduceAdd] <;> rfl) : p := h
theorem zp {p : Prop} (h : p := by simp only [evP, ev_tmp, Tr.get_set, reduceIte, Nat.reduceEqDiff, Nat.reduceAdd] <;> rfl) : p := h
theorem zh {p : Prop} (h : p := by simp only [Tr.get_set, reduceIte, Nat.reduceEqDiff, Nat.reduceAdd] <;> rfl) : p := h
theorem zl {p : Prop} (h : p := by simp only [roRows, List.length_cons, List.length_nil, Nat.zero_add, Nat.reduceAdd] <;> rfl) : p := h
theorem zm {p : Prop} (h : p := by simp only [mkE] <;> rfl) : p := h
theorem zo {p : Prop} (h : p := by simp only [Tr.ofList, Nat.zero_add, Nat.reduceAdd] <;> rfl) : p := h
theorem zc {p : Prop} (h : p := by first | assumption | (apply cf_part; (first | assumption | (exact cf_nth (by assumption) (by omega) (by omega))); rfl) | (exact cf_nth (by assumption) (by omega) (by omega))) : p := h
theorem zr {p : Prop} (h : p := by kernel_rfl) : p := h
theorem zd {p : Prop} (h : p := by decide) : p := h
theorem ow {p : Prop} (h : p := by omega) : p := h
theorem zg {p : Prop} (h : p := by (try simp only [Tr.get_set, reduceIte, Nat.reduceEqDiff, Nat.reduceAdd, ev_tmp]) <;> first | exact congrArg (fun b => some (Value.bool b)) (by assumption) | rfl) : p := h
theorem zb {p : Prop} (h : p := by simp only [if_true, if_false, Bool.false_eq_true, ev_tmp, Tr.get_set, reduceIte, Nat.reduceEqDiff, Nat.reduceAdd] <;> rfl) : p := h
theorem zs {p : Prop} (h : p := by assumption) : p := h
theorem Fits : Fit Try.prog := ⟨named_all (by kernel_rfl), by kernel_rfl⟩
theorem T.s3 : szOf Try.prog 3 = some 1 := by kernel_rfl
theorem T.g3 : aggOf Try.prog 3 = some false := by kernel_rfl
theorem T.z3 : (Try.prog.info? 3).bind (·.zero) = some (.int .i64 0) := by kernel_rfl
theorem T.s4 : szOf Try.prog 4 = some 1 := by kernel_rfl
theorem T.g4 : aggOf Try.prog 4 = some false := by kernel_rfl
theorem T.z4 : (Try.prog.info? 4).bind (·.zero) = some (.bool false) := by kernel_rfl
theorem T.s5 : szOf Try.prog 5 = some 1 := by kernel_rfl
theorem T.g5 : aggOf Try.prog 5 = some false := by kernel_rfl
theorem T.s9 : szOf Try.prog 9 = some 1 := by kernel_rfl
theorem T.g9 : aggOf Try.prog 9 = some false := by kernel_rfl
theorem T.s22 : szOf Try.prog 22 = some 1 := by kernel_rfl
theorem T.g22 : aggOf Try.prog 22 = some false := by kernel_rfl
theorem T.i22 : TyI Try.prog 3 1 8 := ⟨_, Try.type3, rfl, rfl, rfl⟩
theorem T.s23 : szOf Try.prog 23 = some 1 := by kernel_rfl
theorem T.g23 : aggOf Try.prog 23 = some false := by kernel_rfl
theorem T.i23 : TyI Try.prog 43 46 168 := ⟨_, Try.type43, rfl, rfl, rfl⟩
theorem T.z23 : (Try.prog.info? 23).bind (·.zero) = some (.slice none 0 0) := by kernel_rfl
theorem T.s24 : szOf Try.prog 24 = some 1 := by kernel_rfl
theorem T.g24 : aggOf Try.prog 24 = some false := by kernel_rfl
theorem T.i24 : TyI Try.prog 41 22 72 := ⟨_, Try.type41, rfl, rfl, rfl⟩
theorem T.z24 : (Try.prog.info? 24).bind (·.zero) = some (.slice none 0 0) := by kernel_rfl
theorem T.g32 : aggOf Try.prog 32 = some true := by kernel_rfl
theorem T.s33 : szOf Try.prog 33 = some 16 := by kernel_rfl
theorem T.g33 : aggOf Try.prog 33 = some true := by kernel_rfl
theorem T.g35 : aggOf Try.prog 35 = some true := by kernel_rfl
theorem T.s37 : szOf Try.prog 37 = some 21 := by kernel_rfl
theorem T.g37 : aggOf Try.prog 37 = some true := by kernel_rfl
def T.K37 : List Lk := [.int .u8, .int .u8, .int .u8, .int .u8, .int .u8, .int .u8, .int .u8, .int .u8, .int .u8, .int .u8, .int .u8, .int .u8, .int .u8, .int .u8, .int .u8, .int .u8, .str, .int .i64, .int .i64, .int .i64, .int .i64]
theorem T.f37 : flatTy Try.prog 20 37 = some T.K37 := by kernel_rfl
theorem T.q37 : Try.prog.eqGuardType Try.prog.depth 37 = false := by kernel_rfl
theorem T.z37 : (Try.prog.info? 37).bind (·.zero) = some (.agg ⟨[.int .u8 0, .int .u8 0, .int .u8 0, .int .u8 0, .int .u8 0, .int .u8 0, .int .u8 0, .int .u8 0, .int .u8 0, .int .u8 0, .int .u8 0, .int .u8 0, .int .u8 0, .int .u8 0, .int .u8 0, .int .u8 0, .string .empty, .int .i64 0, .int .i64 0, .int .i64 0, .int .i64 0]⟩) := by kernel_rfl
theorem T.s39 : szOf Try.prog 39 = some 3 := by kernel_rfl
theorem T.g39 : aggOf Try.prog 39 = some true := by kernel_rfl
theorem T.z39 : (Try.prog.info? 39).bind (·.zero) = some (.agg ⟨[.int .i64 0, .int .i64 0, .int .i64 0]⟩) := by kernel_rfl
theorem T.s41 : szOf Try.prog 41 = some 22 := by kernel_rfl
theorem T.g41 : aggOf Try.prog 41 = some true := by kernel_rfl
def T.K41 : List Lk := [.int .i64, .str, .int .i64, .int .i64, .int .i64, .int .i64, .int .u8, .int .u8, .int .u8, .int .u8, .int .u8, .int .u8, .int .u8, .int .u8, .int .u8, .int .u8, .int .u8, .int .u8, .int .u8, .int .u8, .int .u8, .int .u8]
theorem T.f41 : flatTy Try.prog 20 41 = some T.K41 := by kernel_rfl
theorem T.q41 : Try.prog.eqGuardType Try.prog.depth 41 = false := by kernel_rfl
theorem T.z41 : (Try.prog.info? 41).bind (·.zero) = some (.agg ⟨[.int .i64 0, .string .empty, .int .i64 0, .int .i64 0, .int .i64 0, .int .i64 0, .int .u8 0, .int .u8 0, .int .u8 0, .int .u8 0, .int .u8 0, .int .u8 0, .int .u8 0, .int .u8 0, .int .u8 0, .int .u8 0, .int .u8 0, .int .u8 0, .int .u8 0, .int .u8 0, .int .u8 0, .int .u8 0]⟩) := by kernel_rfl
theorem T.s43 : szOf Try.prog 43 = some 46 := by kernel_rfl
theorem T.g43 : aggOf Try.prog 43 = some true := by kernel_rfl
def T.K43 : List Lk := [.int .i64, .int .i64, .int .u8, .int .u8, .int .u8, .int .u8, .int .u8, .int .u8, .int .u8, .int .u8, .int .u8, .int .u8, .int .u8, .int .u8, .int .u8, .int .u8, .int .u8, .int .u8, .str, .int .i64, .int .i64, .int .i64, .int .i64, .int .i64, .str, .int .i64, .int .i64, .int .i64, .int .i64, .int .u8, .int .u8, .int .u8, .int .u8, .int .u8, .int .u8, .int .u8, .int .u8, .int .u8, .int .u8, .int .u8, .int .u8, .int .u8, .int .u8, .int .u8, .int .u8, .str]
theorem T.f43 : flatTy Try.prog 20 43 = some T.K43 := by kernel_rfl
theorem T.q43 : Try.prog.eqGuardType Try.prog.depth 43 = false := by kernel_rfl
theorem T.z43 : (Try.prog.info? 43).bind (·.zero) = some (.agg ⟨[.int .i64 0, .int .i64 0, .int .u8 0, .int .u8 0, .int .u8 0, .int .u8 0, .int .u8 0, .int .u8 0, .int .u8 0, .int .u8 0, .int .u8 0, .int .u8 0, .int .u8 0, .int .u8 0, .int .u8 0, .int .u8 0, .int .u8 0, .int .u8 0, .string .empty, .int .i64 0, .int .i64 0, .int .i64 0, .int .i64 0, .int .i64 0, .string .empty, .int .i64 0, .int .i64 0, .int .i64 0, .int .i64 0, .int .u8 0, .int .u8 0, .int .u8 0, .int .u8 0, .int .u8 0, .int .u8 0, .int .u8 0, .int .u8 0, .int .u8 0, .int .u8 0, .int .u8 0, .int .u8 0, .int .u8 0, .int .u8 0, .int .u8 0, .int .u8 0, .string .empty]⟩) := by kernel_rfl
theorem T.s56 : szOf Try.prog 56 = some 2 := by kernel_rfl
theorem T.g56 : aggOf Try.prog 56 = some true := by kernel_rfl
theorem T.z56 : (Try.prog.info? 56).bind (·.zero) = some (.agg ⟨[.slice none 0 0, .slice none 0 0]⟩) := by kernel_rfl
theorem T.s59 : szOf Try.prog 59 = some 2 := by kernel_rfl
theorem T.g59 : aggOf Try.prog 59 = some true := by kernel_rfl
theorem T.z59 : (Try.prog.info? 59).bind (·.zero) = some (.agg ⟨[.slice none 0 0, .slice none 0 0]⟩) := by kernel_rfl
theorem T.g80 : aggOf Try.prog 80 = some true := by kernel_rfl
def T.K80 : List Lk := [.int .u8, .int .u8, .int .u8, .int .u8, .int .u8, .int .u8, .int .u8, .int .u8, .int .u8, .int .u8, .int .u8, .int .u8, .int .u8, .int .u8, .int .u8, .int .u8, .str, .int .i64, .int .i64, .int .i64, .int .i64, .int .i64, .str, .int .i64, .int .i64, .int .i64, .int .i64, .int .u8, .int .u8, .int .u8, .int .u8, .int .u8, .int .u8, .int .u8, .int .u8, .int .u8, .int .u8, .int .u8, .int .u8, .int .u8, .int .u8, .int .u8, .int .u8]
end Go.Proofs.Ytohhcnehcjpekaa
