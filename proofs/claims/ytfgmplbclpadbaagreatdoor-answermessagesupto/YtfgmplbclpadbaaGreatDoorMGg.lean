/-
  From the walk to a call in a world: the contract of AnswerMessages.
-/
import Derived.Test.YtfgmplbclpadbaaGreatDoorMGa
import Derived.Test.YtfgmplbclpadbaaGreatDoorMXk
import Derived.ChangeMaps5
set_option linter.unusedSimpArgs false
set_option linter.unusedVariables false
namespace Go.Proofs.YtfgmplbclpadbaaGreatDoor
open Go Go.AM
open Go.ChangeShapes Go.WideShapes Go.ChangeAt Go.RowKit
theorem glob_ok {W : World} (h : laidMetH Tryz.prog Rows.answerMessagesUptoRow.laid W) : ∀ g c, gCells g = some c -> ∃ el fz, W.heap[g]? = some (.cells ⟨c⟩ el fz) := by
 rw [MakeChecks.laidMetH_plain _ _ _ (by kernel_rfl)] at h
 exact laid_glob h (by kernel_rfl)
theorem bulk_len {H : Type} : ∀ (l : List (DataW H)), l.length <= Rows.uptoBulkAll l
 | [] => Nat.zero_le _
 | d :: l => by
  have h1 := bulk_len l
  have h2 : 1 <= Rows.uptoBulk d := by
   unfold Rows.uptoBulk
   split <;> omega
  simp only [Rows.uptoBulkAll, List.length_cons]
  omega
theorem bulk_arg {H : Type} {d : DataW H} {ds : List (DataW H)} {l : List Int} (hl : l = [] \/ ∃ es sp, d = .slice es sp /\ l.length = es.length) (hd : Rows.uptoBulk d <= Rows.uptoBulkAll ds) (hk : Rows.uptoSmall H ds = true) : l.length <= 1048576 := by
 have h : Rows.uptoBulkAll ds <= 1048576 := of_decide_eq_true hk
 rcases hl with rfl | ⟨es, sp, rfl, e⟩
 ·exact Nat.zero_le _
 ·have := bulk_len es
  simp only [Rows.uptoBulk] at hd
  omega
theorem vr_agg {β : Ren} {cs : List Value} (h : cs.all free0 = true) : VR β (.agg ⟨cs⟩) (.agg ⟨cs⟩) := .agg rfl fun i v v' a b => by
 rw [a] at b
 cases b
 rw [List.getElem?_toArray] at a
 exact .free v (List.all_eq_true.1 h v (List.mem_of_getElem? a))
set_option maxRecDepth 100000 in
theorem contract (H : Type) (enc : TypeId × Value -> H) (W : World) (base : Nat) (args : Array Value) (ds gs : List (DataW H)) (before : List MemPlace)
  (hval : ∀ (j : Nat) t v, Tryz.f4.params[j]? = some t -> args[j]? = some v -> Value.okWide Tryz.prog W .any base t v)
  (hW : DataW.Whole enc Tryz.prog Tryz.f4.params.toList Rows.answerMessagesSpec.vars false W args.toList ds gs before)
  (hk : Rows.uptoSmall H (ds ++ gs) = true)
  (hL : laidMetH Tryz.prog Rows.answerMessagesUptoRow.laid W) :
  Calls Tryz.prog 4 args W fun e W' => ∃ v, e = .returned v /\ Rows.answerMessagesSpec.post enc Tryz.prog Tryz.f4 false true false false W args v W' := by
 have hW' := hW
 obtain ⟨p, q, hA0, hV, rfl, hfz, hnd⟩ := hW
 have hA : DataW.TrodAll enc Tryz.prog W 0 (fun _ => true) true Tryz.f4.params.toList args.toList ds p := hA0
 rw [Tryz.params4] at hA hval
 obtain ⟨v0, vs0, d0, ds0, p0, q0, hargs, rfl, rfl, h0, r0⟩ := trodAll_cons hA
 obtain ⟨v1, vs1, d1, ds1, p1, q1, rfl, rfl, rfl, h1, r1⟩ := trodAll_cons r0
 obtain ⟨v2, vs2, d2, ds2, p2, q2, rfl, rfl, rfl, h2, r2⟩ := trodAll_cons r1
 obtain ⟨v3, vs3, d3, ds3, p3, q3, rfl, rfl, rfl, h3, r3⟩ := trodAll_cons r2
 obtain ⟨v4, vs4, d4, ds4, p4, q4, rfl, rfl, rfl, h4, r4⟩ := trodAll_cons r3
 obtain ⟨v5, vs5, d5, ds5, p5, q5, rfl, rfl, rfl, h5, r5⟩ := trodAll_cons r4
 obtain ⟨v6, vs6, d6, ds6, p6, q6, rfl, rfl, rfl, h6, r6⟩ := trodAll_cons r5
 obtain ⟨rfl, rfl, rfl⟩ := trodAll_nil r6
 obtain rfl : args = #[v0, v1, v2, v3, v4, v5, v6] := by cases args; simp_all
 obtain ⟨rfl, rfl⟩ := trodVars_none hV
 obtain ⟨n, rfl, rfl, rfl, w0⟩ := open_int Tryz.underlying3 (hval 0 3 v0 rfl rfl) h0
 obtain ⟨m, rfl, rfl, rfl, w1⟩ := open_int Tryz.underlying3 (hval 1 3 v1 rfl rfl) h1
 obtain ⟨how, rfl, rfl, rfl, w2⟩ := open_int Tryz.underlying3 (hval 2 3 v2 rfl rfl) h2
 obtain ⟨by_, rfl, rfl, rfl, w3⟩ := open_int Tryz.underlying3 (hval 3 3 v3 rfl rfl) h3
 obtain ⟨r, rfl, hok⟩ := arg_ans (hval 4 35 v4 rfl rfl) h4
 obtain ⟨s, rfl, rfl, rfl, w5⟩ := Go.ChangeMaps.open_string Tryz.underlying9 (hval 5 9 v5 rfl rfl) h5
 obtain ⟨rest, x6, a6, b6, c6⟩ := arg_ints (k := .u8) Tryz.underlying23 Tryz.underlying5 (by kernel_rfl) (hval 6 23 v6 rfl rfl) h6
 clear hA0 hA
 have hbulk : Rows.uptoBulkAll ([.lit (.int .i64 n), .lit (.int .i64 m), .lit (.int .i64 how), .lit (.int .i64 by_), d4, .lit (.string s.data.toList), d6] ++ []) <= 1048576 := of_decide_eq_true hk
 have hr := bulk_arg b6 (by simp only [List.cons_append, Rows.uptoBulkAll]; omega) hk
 simp only [List.append_nil, Rows.uptoBulkAll] at hbulk
 have okr := hok (by omega)
 obtain ⟨s6, e6, f6⟩ := a6.sl 0
 have hx : ∃ v h', Meets Tryz.prog (.func 4) [.int .i64 n, .int .i64 m, .int .i64 how, .int .i64 by_, .agg ⟨r.C⟩, .string s, s6] (cheap [nums .u8 rest]) v h' /\ v = .bool true :=
  law4_s (lit_inR w0) (lit_inR w1) (lit_inR w2) (lit_inR w3) okr e6 (fun x q => lit_u8 (a6.rng x q)) (by omega) rfl
 obtain ⟨v, h', hm, rfl⟩ := hx
 have hR : RowsAt W [x6] [nums .u8 rest] := RowsAt.cons a6.row (nums_free0 _ rest) RowsAt.nil
 have hv : VRl (fun i => (([x6] : List (Option Bx))[i]?).getD none) [.int .i64 n, .int .i64 m, .int .i64 how, .int .i64 by_, .agg ⟨r.C⟩, .string s, s6] [.int .i64 n, .int .i64 m, .int .i64 how, .int .i64 by_, .agg ⟨r.C⟩, .string s, v6] := .cons (.free _ rfl) (.cons (.free _ rfl) (.cons (.free _ rfl) (.cons (.free _ rfl) (.cons (vr_agg (cf_free0 (Ans.C_cf okr))) (.cons (.free _ rfl) (.cons (f6 _ rfl) .nil))))))
 refine (meets_entry hm rfl (glob_ok hL) hR hv).mono fun e W' he => ?_
 obtain ⟨rfl, ho⟩ := he
 exact ⟨_, rfl, post_old rfl hW' ho (fun _ => trodAll_cons_mk (shut_bool Tryz.underlying4 _) trodAll_mk0) (trodAll_cons_mk (shut_int Tryz.underlying3 w0) (trodAll_cons_mk (shut_int Tryz.underlying3 w1) (trodAll_cons_mk (shut_int Tryz.underlying3 w2) (trodAll_cons_mk (shut_int Tryz.underlying3 w3) (trodAll_cons_mk (shut_old laid_all maps_all sized_all in_types h4 ho) (trodAll_cons_mk (Go.ChangeMaps.shut_string Tryz.underlying9 w5) (trodAll_cons_mk (c6 W' ho) trodAll_mk0))))))) rfl⟩
end Go.Proofs.YtfgmplbclpadbaaGreatDoor
