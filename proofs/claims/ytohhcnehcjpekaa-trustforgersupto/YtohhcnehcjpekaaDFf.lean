/-
  For all answers and right results: of the workers of two answers that clash one at least is a forger; the answers of others than the forgers, and of others than the least ones, do not clash, and there are not more of these (TrustForgers), where what comes in is of bulk at most 1048576.
-/
import Derived.Test.YtohhcnehcjpekaaDEn
import Derived.Test.YtohhcnehcjpekaaDFo
import Derived.Test.YtohhcnehcjpekaaDA3
namespace Go.Proofs.Ytohhcnehcjpekaa
open Go Go.AM
open Go.ChangeShapes Go.WideShapes Go.ChangeAt Go.RowKit
theorem forgers_contract (H : Type) (enc : TypeId × Value → H) (W : World) (base : Nat) (args : Array Value) (ds gs : List (DataW H)) (before : List MemPlace)
    (hval : ∀ (j : Nat) t v, Try.f5.params[j]? = some t → args[j]? = some v → Value.okWide Try.prog W .any base t v)
    (hW : DataW.Whole enc Try.prog Try.f5.params.toList Rows.trustForgersSpec.vars false W args.toList ds gs before) (hk : Rows.uptoSmall H (ds ++ gs) = true) :
    Calls Try.prog 5 args W fun e W' => ∃ v, e = .returned v ∧ Rows.trustForgersSpec.post enc Try.prog Try.f5 false true false false W args v W' := by
  have hW' := hW
  obtain ⟨p, q, hA0, hV, rfl, hfz, hnd⟩ := hW
  have hA : DataW.TrodAll enc Try.prog W 0 (fun _ => true) true Try.f5.params.toList args.toList ds p := hA0
  rw [Try.params5] at hA hval
  obtain ⟨v0, vs0, d0, ds0, p0, q0, hargs, rfl, rfl, h0, r0⟩ := trodAll_cons hA
  obtain ⟨v1, vs1, d1, ds1, p1, q1, rfl, rfl, rfl, h1, r1⟩ := trodAll_cons r0
  obtain ⟨rfl, rfl, rfl⟩ := trodAll_nil r1
  obtain rfl : args = #[v0, v1] := by cases args; simp_all
  obtain ⟨rfl, rfl⟩ := trodVars_none hV
  obtain ⟨l, x0, a0, b0, c0⟩ := arg_ints Try.underlying22 Try.underlying3 (by kernel_rfl) (hval 0 22 v0 rfl rfl) h0
  obtain ⟨bits, rfl, rfl, rfl, wb⟩ := open_int Try.underlying3 (hval 1 3 v1 rfl rfl) h1
  clear hA0 hA
  have hbulk : Rows.uptoBulkAll ([d0, .lit (.int .i64 bits)] ++ []) ≤ 1048576 := of_decide_eq_true hk
  simp only [List.append_nil, Rows.uptoBulkAll] at hbulk
  obtain ⟨s0, e0, f0⟩ := a0.sl 0
  have hm := forgers_m e0 (bits := bits) (by simp only [ok_forgers, Bool.and_eq_true, decide_eq_true_eq]; exact ⟨⟨lit_inR wb, a0.rng⟩, by omega⟩)
  have hR : RowsAt W [x0] [ints l] := RowsAt.cons a0.row (all_free0_ints l) RowsAt.nil
  have hv : VRl (fun i => (([x0] : List (Option Bx))[i]?).getD none) [s0, .int .i64 bits] [v0, .int .i64 bits] := .cons (f0 _ rfl) (.cons (.free _ rfl) .nil)
  refine (meets_entry hm rfl hR hv).mono fun e W' he => ?_
  obtain ⟨rfl, ho⟩ := he
  exact ⟨_, rfl, post_old rfl hW' ho (fun _ => trodAll_cons_mk (shut_bool Try.underlying4 _) trodAll_mk0) (trodAll_cons_mk (c0 W' ho) (trodAll_cons_mk (shut_int Try.underlying3 wb) trodAll_mk0)) rfl⟩
set_option maxRecDepth 100000 in
theorem forgers_lifted (os : Os) (started : os.Started) (H : Type) (enc : TypeId × Value → H) (F : Stop.Interp) :
    ReturnsInHanded {} Try.checked os 5 .any ((Rows.OpenSpec.upto Rows.trustForgersSpec).pre6 enc Try.prog Try.f5 Rows.trustForgersUptoRow.domain false) (((Rows.OpenSpec.upto Rows.trustForgersSpec).at F).post enc Try.prog Try.f5 false true false false) := by
  refine returnsInHanded_of_cond (C := Try.checked) (s := Rows.OpenSpec.upto Rows.trustForgersSpec) (k := Rows.uptoSmall) rfl own started (by kernel_rfl) Try.func5
    (OpenSpec.witness (enc := enc) (C := Try.checked) (s := Rows.OpenSpec.upto Rows.trustForgersSpec) (k := Rows.uptoSmall) rfl false ⟨#[], #[.slice none 0 0, .int .i64 0], []⟩ 8 (by kernel_rfl) (by kernel_rfl) (by kernel_rfl)
      (x := ([.nil, .lit (.int .i64 0)], [], [])) (by kernel_rfl) rfl (by kernel_rfl)) ?_
  intro W base args ds gs before hval hW _ hk _
  exact forgers_contract H enc W base args ds gs before hval hW hk
/-- TrustForgers, where what it reads is of bulk at most 1048576 -/
theorem trustForgers_upto : Rows.TrustForgersUptoSaid :=
  OpenClaim.holds_of_cond 5 Try.f5 rfl rfl rfl rfl rfl rfl rfl ⟨rfl, rfl, rfl, rfl, rfl⟩ rfl rfl rfl rfl rfl (by kernel_rfl) Try.func5 (by kernel_rfl)
    (of_decide_eq_true (by kernel_rfl)) (by unfold Func.isWrapper; first | (rw [if_pos (by decide +kernel)]; kernel_rfl) | (rw [if_neg (by decide +kernel)]; exact ⟨rfl, rfl⟩))
    (fun os started H enc _ F => forgers_lifted os started H enc F)
end Go.Proofs.Ytohhcnehcjpekaa
