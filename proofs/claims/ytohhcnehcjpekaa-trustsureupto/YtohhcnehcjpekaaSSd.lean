/-
  Contracts: the small functions of the law.
-/
import Derived.Test.YtohhcnehcjpekaaSMk
import Derived.Test.YtohhcnehcjpekaaSWo
import Derived.Test.YtohhcnehcjpekaaSA3
namespace Go.Proofs.Ytohhcnehcjpekaa
open Go.AM
set_option maxRecDepth 100000
set_option maxHeartbeats 1000000
set_option linter.unusedSimpArgs false
set_option linter.unusedVariables false

def saidC (n s m : Int) : List Value := [.int .i64 n, .int .i64 0, .int .u8 0, .int .u8 0, .int .u8 0, .int .u8 0, .int .u8 0, .int .u8 0, .int .u8 0, .int .u8 0, .int .u8 0, .int .u8 0, .int .u8 0, .int .u8 0, .int .u8 0, .int .u8 0, .int .u8 0, .int .u8 0, .string .empty, .int .i64 0, .int .i64 0, .int .i64 0, .int .i64 s, .int .i64 0, .string .empty, .int .i64 0, .int .i64 m, .int .i64 0, .int .i64 0, .int .u8 0, .int .u8 0, .int .u8 0, .int .u8 0, .int .u8 0, .int .u8 0, .int .u8 0, .int .u8 0, .int .u8 0, .int .u8 0, .int .u8 0, .int .u8 0, .int .u8 0, .int .u8 0, .int .u8 0, .int .u8 0, .string .empty]
theorem saidC_cf (n s m : Int) : cf T.K43 (saidC n s m) = true := rfl

def ok_said (n : Int) (s : Int) (m : Int) : Bool := true
def val_said (n : Int) (s : Int) (m : Int) : Value := .agg ⟨saidC n s m⟩
def new_said (n : Int) (s : Int) (m : Int) : List (List Value) := []
def spec_said : Go.AM.Spec := fun us cs => match us, cs with
  | [.int .i64 n, .int .i64 s, .int .i64 m], [] => if ok_said n s m then some (val_said n s m, new_said n s m) else none
  | _, _ => none
def c_said := flatC [.fr, .fr, .fr] spec_said
theorem said_m  {n : Int} {s : Int} {m : Int}  (hok : ok_said n s m = true) : Meets Try.prog (.func 45) [.int .i64 n, .int .i64 s, .int .i64 m] (cheap []) (val_said n s m) (rheap [] (new_said n s m)) := by
  have hP := Fits
  have hC : CallSound Try.prog (tabOf []) := tab_sound tab_end
  refine meets_start (sz := 14) hP Try.func45 rfl rfl zo (by simp only [Tr.ofList, roRows, Nat.zero_add, Nat.reduceAdd] <;> rfl) zl ?_
  refine k_seq ?_
  refine k_region hP hC ?_
  refine os (y_alloc rfl T.z43 rfl rfl) ?_
  refine o_done ?_
  refine e_seq ?_
  refine k_seq ?_
  refine k_region hP hC ?_
  refine os (x_move rfl zt) ?_
  refine os (x_move rfl zt) ?_
  refine os (x_build (v := .agg ⟨[.int .u8 0, .int .u8 0, .int .u8 0, .int .u8 0, .int .u8 0, .int .u8 0, .int .u8 0, .int .u8 0, .int .u8 0, .int .u8 0, .int .u8 0, .int .u8 0, .int .u8 0, .int .u8 0, .int .u8 0, .int .u8 0, .string .empty, .int .i64 0, .int .i64 0, .int .i64 0, .int .i64 s]⟩) rfl zp T.z37 rfl zr) ?_
  refine os (x_move rfl zt) ?_
  refine os (x_build (v := .agg ⟨[.int .i64 m, .int .i64 0, .int .i64 0]⟩) rfl zp T.z39 rfl zr) ?_
  refine os (x_build (v := .agg ⟨[.int .i64 0, .string .empty, .int .i64 0, .int .i64 m, .int .i64 0, .int .i64 0, .int .u8 0, .int .u8 0, .int .u8 0, .int .u8 0, .int .u8 0, .int .u8 0, .int .u8 0, .int .u8 0, .int .u8 0, .int .u8 0, .int .u8 0, .int .u8 0, .int .u8 0, .int .u8 0, .int .u8 0, .int .u8 0]⟩) rfl zp T.z41 rfl zr) ?_
  refine os (x_build (v := .agg ⟨saidC n s m⟩) rfl zp T.z43 rfl zr) ?_
  refine o_stepN (wA_none rfl) rfl (y_storeA rfl zt zt T.s43 (cf_len (ks := T.K43) (by rfl)) zh rfl rfl (cf_oneC (ks := T.K43) (by rfl))) ?_
  refine o_done ?_
  refine e_seq ?_
  refine k_ret ?_
  refine gives_mk2 (L := []) (w := 0) (.inr rfl) zr (resA_cell zh T.g43 T.s43 (l_all (whole_row zh rfl) rfl) resA_nil) ?_ gcH_nil zr
  show gcV _ 9 (.agg ⟨_⟩) = some (.agg ⟨saidC n s m⟩); exact gcV_agg (ks := T.K43) rfl

theorem con_said : Con Try.prog 45 c_said := con_flat Try.func45 rfl fun us cs v new h => by
  unfold spec_said at h
  split at h
  case h_2 => cases h
  rename_i n s m
  split at h
  case isFalse => cases h
  rename_i hc
  try simp only [Bool.and_eq_true] at hc
  have hok := hc
  cases h
  have key := said_m  hok
  exact key
theorem said_c {H : AH}  {n : Int} {s : Int} {m : Int}  (hok : ok_said n s m = true) : c_said [.int .i64 n, .int .i64 s, .int .i64 m] H = some (.agg ⟨saidC n s m⟩, H) := by
  exact flatC_at (v := val_said n s m) (new := new_said n s m) (cl_fr rfl (cl_fr rfl (cl_fr rfl cl_nil))) (by simp only [spec_said, hok, Bool.and_self, if_true]) (rfl) (gcV_agg (saidC_cf _ _ _))

def wrongB (x : List Value) : Bool := !eqCs (resC x) (rightC (seedC (askC x)))
def ok_wrong33 (x : List Value) : Bool := decide (inR (intAt (askC x) 20))
def val_wrong33 (x : List Value) : Value := .bool (wrongB x)
def new_wrong33 (x : List Value) : List (List Value) := []
def spec_wrong33 : Go.AM.Spec := fun us cs => match us, cs with
  | [.agg ⟨x⟩], [] => if cf T.K43 x && ok_wrong33 x then some (val_wrong33 x, new_wrong33 x) else none
  | _, _ => none
def c_wrong33 := flatC [.fr] spec_wrong33
theorem wrong33_m  {x : List Value} (h_x : cf T.K43 x = true) (hok : ok_wrong33 x = true) : Meets Try.prog (.func 33) [.agg ⟨x⟩] (cheap []) (val_wrong33 x) (rheap [] (new_wrong33 x)) := by
  have hP := Fits
  have hC : CallSound Try.prog (tabOf [(34, c_right)]) := tab_sound (tab_cons con_right tab_end)
  simp only [ok_wrong33, Bool.and_eq_true, decide_eq_true_eq] at hok
  have hn := hok
  refine meets_start (sz := 9) hP Try.func33 rfl rfl zo (by simp only [Tr.ofList, roRows, Nat.zero_add, Nat.reduceAdd] <;> rfl) zl ?_
  refine k_seq ?_
  refine k_region hP hC ?_
  refine os (y_boxA rfl zt) ?_
  refine os (x_assign rfl (by rfl)) ?_
  refine o_done ?_
  refine e_seq ?_
  refine k_seq ?_
  refine k_draw hP hC zr ?_
  refine ds (x_field (off' := 23) rfl zt Try.underlying43 rfl T.s41 rfl) ?_
  refine ds (x_loadA rfl zt T.g41 T.s41 (l_box (whole_row zh rfl) (by (first | assumption | (exact cf_nth (by assumption) (by omega) (by omega)))) (by decide))) ?_
  refine ds (x_field (off' := 2) rfl zt Try.underlying43 rfl T.s37 rfl) ?_
  refine ds (x_loadA rfl zt T.g37 T.s37 (l_box (whole_row zh rfl) (by (first | assumption | (exact cf_nth (by assumption) (by omega) (by omega)))) (by decide))) ?_
  refine d_call0 (wA_none rfl) rfl rfl rfl zv (by decide) ?_
  refine ⟨_, _, _, _, (tab_hit.trans (right_c zc (by rw [ok_right]; exact decide_eq_true hn))), ?_⟩
  refine ds (x_bin rfl zt zt (b_neqA (by decide) T.f41 T.g41 T.q41 (by first | exact rightC_cf _ | assumption | (apply cf_part; (first | assumption | (exact cf_nth (by assumption) (by omega) (by omega))); rfl) | (exact cf_nth (by assumption) (by omega) (by omega))) (by first | exact rightC_cf _ | assumption | (apply cf_part; (first | assumption | (exact cf_nth (by assumption) (by omega) (by omega))); rfl) | (exact cf_nth (by assumption) (by omega) (by omega))))) ?_
  refine ds (x_assign rfl zt) ?_
  refine d_done ⟨by kernel_rfl, ?_⟩
  refine e_seq ?_
  refine k_ret ?_
  refine gives_mk (L := []) (slots := [2]) (w := 0) (.inr rfl) zr (gcVs_cons zh (gcV_free rfl) gcVs_nil) gcH_nil zr (by simp only [Try.results33, resA, cst, mkE, Tr.get_set, reduceIte, Nat.reduceEqDiff, Nat.reduceAdd] <;> rfl) ?_
  simp only [one, val_wrong33, wrongB, askC, resC]

theorem con_wrong33 : Con Try.prog 33 c_wrong33 := con_flat Try.func33 rfl fun us cs v new h => by
  unfold spec_wrong33 at h
  split at h
  case h_2 => cases h
  rename_i x
  split at h
  case isFalse => cases h
  rename_i hc
  try simp only [Bool.and_eq_true] at hc
  obtain ⟨h_x, hok⟩ := hc
  cases h
  have key := wrong33_m h_x hok
  exact key
theorem wrong33_c {H : AH}  {x : List Value} (h_x : cf T.K43 x = true) (hok : ok_wrong33 x = true) : c_wrong33 [.agg ⟨x⟩] H = some (.bool (wrongB x), H) := by
  exact flatC_at (v := val_wrong33 x) (new := new_wrong33 x) (cl_fr (cf_free0 h_x) cl_nil) (by simp only [spec_wrong33, h_x, hok, Bool.and_self, if_true]) (rfl) (gcV_free rfl)

end Go.Proofs.Ytohhcnehcjpekaa
