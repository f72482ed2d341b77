/-
  For all answers, right results, findings and used answers, also ones that are not possible, Judge, Kept, Leans and Check return what the reference model does (TrustJudges), where what comes in is of bulk at most 1048576.
-/
import Derived.Test.YtohhcnehcjpekaaJEa
namespace Go.Proofs.Ytohhcnehcjpekaa
open Go Go.AM
open Go.ChangeShapes Go.WideShapes Go.ChangeAt Go.RowKit
theorem judgelaw_contract (H : Type) (enc : TypeId × Value → H) (W : World) (base : Nat) (args : Array Value) (ds gs : List (DataW H)) (before : List MemPlace)
  (hval : ∀ (j : Nat) t v, Try.f4.params[j]? = some t → args[j]? = some v → Value.okWide Try.prog W .any base t v)
  (hW : DataW.Whole enc Try.prog Try.f4.params.toList Rows.trustJudgesSpec.vars false W args.toList ds gs before) (hk : Rows.uptoSmall H (ds ++ gs) = true) :
  Calls Try.prog 4 args W fun e W' => ∃ v, e = .returned v ∧ Rows.trustJudgesSpec.post enc Try.prog Try.f4 false true false false W args v W' := by
 have hW' := hW
 obtain ⟨p, q, hA0, hV, rfl, hfz, hnd⟩ := hW
 have hA : DataW.TrodAll enc Try.prog W 0 (fun _ => true) true Try.f4.params.toList args.toList ds p := hA0
 rw [Try.params4] at hA hval
 obtain ⟨v0, vs0, d0, ds0, p0, q0, hargs, rfl, rfl, h0, r0⟩ := trodAll_cons hA
 obtain ⟨v1, vs1, d1, ds1, p1, q1, rfl, rfl, rfl, h1, r1⟩ := trodAll_cons r0
 obtain ⟨v2, vs2, d2, ds2, p2, q2, rfl, rfl, rfl, h2, r2⟩ := trodAll_cons r1
 obtain ⟨v3, vs3, d3, ds3, p3, q3, rfl, rfl, rfl, h3, r3⟩ := trodAll_cons r2
 obtain ⟨v4, vs4, d4, ds4, p4, q4, rfl, rfl, rfl, h4, r4⟩ := trodAll_cons r3
 obtain ⟨v5, vs5, d5, ds5, p5, q5, rfl, rfl, rfl, h5, r5⟩ := trodAll_cons r4
 obtain ⟨v6, vs6, d6, ds6, p6, q6, rfl, rfl, rfl, h6, r6⟩ := trodAll_cons r5
 obtain ⟨rfl, rfl, rfl⟩ := trodAll_nil r6
 obtain rfl : args = #[v0, v1, v2, v3, v4, v5, v6] := by cases args; simp_all
 obtain ⟨rfl, rfl⟩ := trodVars_none hV
 obtain ⟨l, x0, a0, b0, c0⟩ := arg_ints Try.underlying22 Try.underlying3 (by kernel_rfl) (hval 0 22 v0 rfl rfl) h0
 obtain ⟨bits, rfl, rfl, rfl, w1⟩ := open_int Try.underlying3 (hval 1 3 v1 rfl rfl) h1
 obtain ⟨how, rfl, rfl, rfl, w2⟩ := open_int Try.underlying3 (hval 2 3 v2 rfl rfl) h2
 obtain ⟨bb, rfl, rfl, rfl, w3⟩ := open_int Try.underlying3 (hval 3 3 v3 rfl rfl) h3
 obtain ⟨uu, x4, a4, b4, c4⟩ := arg_ints Try.underlying22 Try.underlying3 (by kernel_rfl) (hval 4 22 v4 rfl rfl) h4
 obtain ⟨ww, x5, a5, b5, c5⟩ := arg_ints Try.underlying22 Try.underlying3 (by kernel_rfl) (hval 5 22 v5 rfl rfl) h5
 obtain ⟨raw, x6, a6, b6⟩ := arg_rows Try.underlying23 T.f43 (k := 46) rfl (by kernel_rfl) (by decide) (hval 6 23 v6 rfl rfl) h6
 clear hA0 hA
 have hbulk : Rows.uptoBulkAll ([d0, .lit (.int .i64 bits), .lit (.int .i64 how), .lit (.int .i64 bb), d4, d5, d6] ++ []) ≤ 1048576 := of_decide_eq_true hk
 simp only [List.append_nil, Rows.uptoBulkAll] at hbulk
 obtain ⟨s0, e0, f0⟩ := a0.sl 0
 obtain ⟨s4, e4, f4⟩ := a4.sl 1
 obtain ⟨s5, e5, f5⟩ := a5.sl 2
 obtain ⟨s6, e6, f6⟩ := a6.sl 3
 have hm := judgelaw_m e0 e4 e5 e6 a6.cf (bits := bits) (how := how) (bb := bb) (by simp only [ok_judgelaw, Bool.and_eq_true, decide_eq_true_eq]; exact ⟨⟨⟨⟨⟨⟨⟨lit_inR w1, lit_inR w2⟩, lit_inR w3⟩, a0.rng⟩, by omega⟩, by omega⟩, by omega⟩, by omega⟩)
 have hR : RowsAt W [x0, x4, x5, x6] [ints l, ints uu, ints ww, raw.flatten] := RowsAt.cons a0.row (all_free0_ints l) (RowsAt.cons a4.row (all_free0_ints uu) (RowsAt.cons a5.row (all_free0_ints ww) (RowsAt.cons a6.row (cfs_free0 a6.cf) RowsAt.nil)))
 have hv : VRl (fun i => (([x0, x4, x5, x6] : List (Option Bx))[i]?).getD none) [s0, .int .i64 bits, .int .i64 how, .int .i64 bb, s4, s5, s6] [v0, .int .i64 bits, .int .i64 how, .int .i64 bb, v4, v5, v6] := .cons (f0 _ rfl) (.cons (.free _ rfl) (.cons (.free _ rfl) (.cons (.free _ rfl) (.cons (f4 _ rfl) (.cons (f5 _ rfl) (.cons (f6 _ rfl) .nil))))))
 refine (meets_entry hm rfl hR hv).mono fun e W' he => ?_
 obtain ⟨rfl, ho⟩ := he
 exact ⟨_, rfl, post_old rfl hW' ho (fun _ => trodAll_cons_mk (shut_bool Try.underlying4 _) trodAll_mk0) (trodAll_cons_mk (c0 W' ho) (trodAll_cons_mk (shut_int Try.underlying3 w1) (trodAll_cons_mk (shut_int Try.underlying3 w2) (trodAll_cons_mk (shut_int Try.underlying3 w3) (trodAll_cons_mk (c4 W' ho) (trodAll_cons_mk (c5 W' ho) (trodAll_cons_mk (shut_old laid_all maps_all sized_all (of_decide_eq_true (by kernel_rfl)) h6 ho) trodAll_mk0))))))) rfl⟩
set_option maxRecDepth 100000 in
theorem judgelaw_lifted (os : Os) (started : os.Started) (H : Type) (enc : TypeId × Value → H) (F : Stop.Interp) :
  ReturnsInHanded {} Try.checked os 4 .any ((Rows.OpenSpec.upto Rows.trustJudgesSpec).pre6 enc Try.prog Try.f4 Rows.trustJudgesUptoRow.domain false) (((Rows.OpenSpec.upto Rows.trustJudgesSpec).at F).post enc Try.prog Try.f4 false true false false) := by
 refine returnsInHanded_of_cond (C := Try.checked) (s := Rows.OpenSpec.upto Rows.trustJudgesSpec) (k := Rows.uptoSmall) rfl own started (by kernel_rfl) Try.func4
  (OpenSpec.witness (enc := enc) (C := Try.checked) (s := Rows.OpenSpec.upto Rows.trustJudgesSpec) (k := Rows.uptoSmall) rfl false ⟨#[], #[.slice none 0 0, .int .i64 0, .int .i64 0, .int .i64 0, .slice none 0 0, .slice none 0 0, .slice none 0 0], []⟩ 8 (by kernel_rfl) (by kernel_rfl) (by kernel_rfl)
   (x := ([.nil, .lit (.int .i64 0), .lit (.int .i64 0), .lit (.int .i64 0), .nil, .nil, .nil], [], [])) (by kernel_rfl) rfl (by kernel_rfl)) ?_
 intro W base args ds gs before hval hW _ hk _
 exact judgelaw_contract H enc W base args ds gs before hval hW hk
theorem trustJudges_upto : Rows.TrustJudgesUptoSaid :=
 OpenClaim.holds_of_cond 4 Try.f4 rfl rfl rfl rfl rfl rfl rfl ⟨rfl, rfl, rfl, rfl, rfl⟩ rfl rfl rfl rfl rfl (by kernel_rfl) Try.func4 (by kernel_rfl)
  (of_decide_eq_true (by kernel_rfl)) (by unfold Func.isWrapper; first | (rw [if_pos (by decide +kernel)]; kernel_rfl) | (rw [if_neg (by decide +kernel)]; exact ⟨rfl, rfl⟩))
  (fun os started H enc _ F => judgelaw_lifted os started H enc F)
end Go.Proofs.Ytohhcnehcjpekaa
