/-
  For all answers, also ones that are not possible, and numbers of forgers, Clash, Clashes, Agreed and Least return what the reference model does (TrustClashes), where what comes in is of bulk at most 1048576.
-/
import Derived.Test.YtohhcnehcjpekaaCEa
namespace Go.Proofs.Ytohhcnehcjpekaa
open Go Go.AM
open Go.ChangeShapes Go.WideShapes Go.ChangeAt Go.RowKit
theorem clashlaw_contract (H : Type) (enc : TypeId × Value → H) (W : World) (base : Nat) (args : Array Value) (ds gs : List (DataW H)) (before : List MemPlace)
  (hval : ∀ (j : Nat) t v, Try.f3.params[j]? = some t → args[j]? = some v → Value.okWide Try.prog W .any base t v)
  (hW : DataW.Whole enc Try.prog Try.f3.params.toList Rows.trustClashesSpec.vars false W args.toList ds gs before) (hk : Rows.uptoSmall H (ds ++ gs) = true) :
  Calls Try.prog 3 args W fun e W' => ∃ v, e = .returned v ∧ Rows.trustClashesSpec.post enc Try.prog Try.f3 false true false false W args v W' := by
 have hW' := hW
 obtain ⟨p, q, hA0, hV, rfl, hfz, hnd⟩ := hW
 have hA : DataW.TrodAll enc Try.prog W 0 (fun _ => true) true Try.f3.params.toList args.toList ds p := hA0
 rw [Try.params3] at hA hval
 obtain ⟨v0, vs0, d0, ds0, p0, q0, hargs, rfl, rfl, h0, r0⟩ := trodAll_cons hA
 obtain ⟨v1, vs1, d1, ds1, p1, q1, rfl, rfl, rfl, h1, r1⟩ := trodAll_cons r0
 obtain ⟨v2, vs2, d2, ds2, p2, q2, rfl, rfl, rfl, h2, r2⟩ := trodAll_cons r1
 obtain ⟨v3, vs3, d3, ds3, p3, q3, rfl, rfl, rfl, h3, r3⟩ := trodAll_cons r2
 obtain ⟨rfl, rfl, rfl⟩ := trodAll_nil r3
 obtain rfl : args = #[v0, v1, v2, v3] := by cases args; simp_all
 obtain ⟨rfl, rfl⟩ := trodVars_none hV
 obtain ⟨l, x0, a0, b0, c0⟩ := arg_ints Try.underlying22 Try.underlying3 (by kernel_rfl) (hval 0 22 v0 rfl rfl) h0
 obtain ⟨bits, rfl, rfl, rfl, wb⟩ := open_int Try.underlying3 (hval 1 3 v1 rfl rfl) h1
 obtain ⟨forgers, rfl, rfl, rfl, wm⟩ := open_int Try.underlying3 (hval 2 3 v2 rfl rfl) h2
 obtain ⟨raw, x3, a3, b3⟩ := arg_rows Try.underlying23 T.f43 (k := 46) rfl (by kernel_rfl) (by decide) (hval 3 23 v3 rfl rfl) h3
 clear hA0 hA
 have hbulk : Rows.uptoBulkAll ([d0, .lit (.int .i64 bits), .lit (.int .i64 forgers), d3] ++ []) ≤ 1048576 := of_decide_eq_true hk
 simp only [List.append_nil, Rows.uptoBulkAll] at hbulk
 obtain ⟨s0, e0, f0⟩ := a0.sl 0
 obtain ⟨s3, e3, f3⟩ := a3.sl 1
 have hm := clashlaw_m e0 e3 a3.cf (bits := bits) (forgers := forgers) (by simp only [ok_clashlaw, Bool.and_eq_true, decide_eq_true_eq]; exact ⟨⟨⟨⟨lit_inR wb, lit_inR wm⟩, a0.rng⟩, by omega⟩, by omega⟩)
 have hR : RowsAt W [x0, x3] [ints l, raw.flatten] := RowsAt.cons a0.row (all_free0_ints l) (RowsAt.cons a3.row (cfs_free0 a3.cf) RowsAt.nil)
 have hv : VRl (fun i => (([x0, x3] : List (Option Bx))[i]?).getD none) [s0, .int .i64 bits, .int .i64 forgers, s3] [v0, .int .i64 bits, .int .i64 forgers, v3] := .cons (f0 _ rfl) (.cons (.free _ rfl) (.cons (.free _ rfl) (.cons (f3 _ rfl) .nil)))
 refine (meets_entry hm rfl hR hv).mono fun e W' he => ?_
 obtain ⟨rfl, ho⟩ := he
 exact ⟨_, rfl, post_old rfl hW' ho (fun _ => trodAll_cons_mk (shut_bool Try.underlying4 _) trodAll_mk0) (trodAll_cons_mk (c0 W' ho) (trodAll_cons_mk (shut_int Try.underlying3 wb) (trodAll_cons_mk (shut_int Try.underlying3 wm) (trodAll_cons_mk (shut_old laid_all maps_all sized_all (of_decide_eq_true (by kernel_rfl)) h3 ho) trodAll_mk0)))) rfl⟩
set_option maxRecDepth 100000 in
theorem clashlaw_lifted (os : Os) (started : os.Started) (H : Type) (enc : TypeId × Value → H) (F : Stop.Interp) :
  ReturnsInHanded {} Try.checked os 3 .any ((Rows.OpenSpec.upto Rows.trustClashesSpec).pre6 enc Try.prog Try.f3 Rows.trustClashesUptoRow.domain false) (((Rows.OpenSpec.upto Rows.trustClashesSpec).at F).post enc Try.prog Try.f3 false true false false) := by
 refine returnsInHanded_of_cond (C := Try.checked) (s := Rows.OpenSpec.upto Rows.trustClashesSpec) (k := Rows.uptoSmall) rfl own started (by kernel_rfl) Try.func3
  (OpenSpec.witness (enc := enc) (C := Try.checked) (s := Rows.OpenSpec.upto Rows.trustClashesSpec) (k := Rows.uptoSmall) rfl false ⟨#[], #[.slice none 0 0, .int .i64 0, .int .i64 0, .slice none 0 0], []⟩ 8 (by kernel_rfl) (by kernel_rfl) (by kernel_rfl)
   (x := ([.nil, .lit (.int .i64 0), .lit (.int .i64 0), .nil], [], [])) (by kernel_rfl) rfl (by kernel_rfl)) ?_
 intro W base args ds gs before hval hW _ hk _
 exact clashlaw_contract H enc W base args ds gs before hval hW hk
theorem trustClashes_upto : Rows.TrustClashesUptoSaid :=
 OpenClaim.holds_of_cond 3 Try.f3 rfl rfl rfl rfl rfl rfl rfl ⟨rfl, rfl, rfl, rfl, rfl⟩ rfl rfl rfl rfl rfl (by kernel_rfl) Try.func3 (by kernel_rfl)
  (of_decide_eq_true (by kernel_rfl)) (by unfold Func.isWrapper; first | (rw [if_pos (by decide +kernel)]; kernel_rfl) | (rw [if_neg (by decide +kernel)]; exact ⟨rfl, rfl⟩))
  (fun os started H enc _ F => clashlaw_lifted os started H enc F)
end Go.Proofs.Ytohhcnehcjpekaa
