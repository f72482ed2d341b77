/-
  From the walk to a call in a world: the contract of ShrinkShows.
-/
import Derived.Test.YtmladpbadglecaaGreatDoorHEn
import Derived.Test.YtmladpbadglecaaGreatDoorHWx
import Derived.ChangeMaps5
set_option linter.unusedSimpArgs false
set_option linter.unusedVariables false
namespace Go.Proofs.YtmladpbadglecaaGreatDoor
open Go Go.AM
open Go.ChangeShapes Go.WideShapes Go.ChangeAt Go.RowKit
theorem glob_ok {W : World} (h : laidMetH Tryz.prog Rows.shrinkShowsRow.laid W) : ∀ g c, gCells g = some c -> ∃ el fz, W.heap[g]? = some (.cells ⟨c⟩ el fz) := by
 rw [MakeChecks.laidMetH_plain _ _ _ (by kernel_rfl)] at h
 exact laid_glob h (by kernel_rfl)
theorem len_ok {H : Type} {d0 : DataW H} {ts : List TypeId} {ds : List (DataW H)} {l : List Int} (hl : l = [] \/ ∃ es sp, d0 = .slice es sp /\ l.length = es.length) (hw : (DataW.weightsEach Tryz.prog (22 :: ts) (d0 :: ds)).all (· <= reachBytes) = true) : l.length < 4611686018427387904 := by
 rcases hl with rfl | ⟨es, sp, rfl, e⟩
 ·decide
 ·simp only [DataW.weightsEach, DataW.weights, Tryz.underlying22, List.cons_append, List.all_cons, Bool.and_eq_true, decide_eq_true_eq] at hw
  have hb : Tryz.prog.bytesOf 3 = 8 := by kernel_rfl
  have h1 := hw.1
  rw [hb] at h1
  unfold reachBytes at h1
  omega
set_option maxRecDepth 100000 in
theorem contract (H : Type) (enc : TypeId × Value -> H) (W : World) (base : Nat) (args : Array Value) (ds gs : List (DataW H)) (before : List MemPlace)
  (hval : ∀ (j : Nat) t v, Tryz.f3.params[j]? = some t -> args[j]? = some v -> Value.okWide Tryz.prog W .any base t v)
  (hW : DataW.Whole enc Tryz.prog Tryz.f3.params.toList Rows.shrinkShowsSpec.vars false W args.toList ds gs before)
  (hw : (DataW.weightsEach Tryz.prog (Tryz.f3.params.toList ++ (OpenSpec.ofChange Rows.shrinkShowsSpec).bare.plain.varTypes Tryz.prog) (ds ++ gs)).all (· <= reachBytes) = true)
  (hL : laidMetH Tryz.prog Rows.shrinkShowsRow.laid W) :
  Calls Tryz.prog 3 args W fun e W' => ∃ v, e = .returned v /\ Rows.shrinkShowsSpec.post enc Tryz.prog Tryz.f3 false true false false W args v W' := by
 have hW' := hW
 obtain ⟨p, q, hA0, hV, rfl, hfz, hnd⟩ := hW
 have hA : DataW.TrodAll enc Tryz.prog W 0 (fun _ => true) true Tryz.f3.params.toList args.toList ds p := hA0
 rw [Tryz.params3] at hA hval hw
 obtain ⟨v0, vs0, d0, ds0, p0, q0, hargs, rfl, rfl, h0, r0⟩ := trodAll_cons hA
 obtain ⟨v1, vs1, d1, ds1, p1, q1, rfl, rfl, rfl, h1, r1⟩ := trodAll_cons r0
 obtain ⟨v2, vs2, d2, ds2, p2, q2, rfl, rfl, rfl, h2, r2⟩ := trodAll_cons r1
 obtain ⟨v3, vs3, d3, ds3, p3, q3, rfl, rfl, rfl, h3, r3⟩ := trodAll_cons r2
 obtain ⟨v4, vs4, d4, ds4, p4, q4, rfl, rfl, rfl, h4, r4⟩ := trodAll_cons r3
 obtain ⟨v5, vs5, d5, ds5, p5, q5, rfl, rfl, rfl, h5, r5⟩ := trodAll_cons r4
 obtain ⟨rfl, rfl, rfl⟩ := trodAll_nil r5
 obtain rfl : args = #[v0, v1, v2, v3, v4, v5] := by cases args; simp_all
 obtain ⟨rfl, rfl⟩ := trodVars_none hV
 obtain ⟨word, x0, a0, b0, c0⟩ := arg_ints (k := .i64) Tryz.underlying22 Tryz.underlying3 (by kernel_rfl) (hval 0 22 v0 rfl rfl) h0
 obtain ⟨n, rfl, rfl, rfl, w1⟩ := open_int Tryz.underlying3 (hval 1 3 v1 rfl rfl) h1
 obtain ⟨a, c, b, rest, rfl, hrl, hfr⟩ := arg_res (hval 2 28 v2 rfl rfl) h2
 obtain ⟨oc, rfl, rfl, rfl, w3⟩ := open_int Tryz.underlying3 (hval 3 3 v3 rfl rfl) h3
 obtain ⟨wh, rfl, rfl, rfl, w4⟩ := Go.ChangeMaps.open_string Tryz.underlying9 (hval 4 9 v4 rfl rfl) h4
 obtain ⟨site, rfl, rfl, rfl, w5⟩ := open_int Tryz.underlying3 (hval 5 3 v5 rfl rfl) h5
 clear hA0 hA
 have hlen := len_ok (ts := [3, 28, 3, 9, 3]) b0 hw
 obtain ⟨s0, e0, f0⟩ := a0.sl 0
 have hx : ∃ v h', Meets Tryz.prog (.func 3) [s0, .int .i64 n, .agg ⟨.int .i64 a :: .string b :: .int .i64 c :: rest⟩, .int .i64 oc, .string wh, .int .i64 site] (cheap [nums .i64 word]) v h' /\ v = .bool true :=
  law3_s (lit_inR w1) hrl e0 (fun x q => lit_inR (a0.rng x q)) hlen rfl
 obtain ⟨v, h', hm, rfl⟩ := hx
 have hR : RowsAt W [x0] [nums .i64 word] := RowsAt.cons a0.row (nums_free0 _ word) RowsAt.nil
 have hv : VRl (fun i => (([x0] : List (Option Bx))[i]?).getD none) [s0, .int .i64 n, .agg ⟨.int .i64 a :: .string b :: .int .i64 c :: rest⟩, .int .i64 oc, .string wh, .int .i64 site] [v0, .int .i64 n, .agg ⟨.int .i64 a :: .string b :: .int .i64 c :: rest⟩, .int .i64 oc, .string wh, .int .i64 site] := .cons (f0 _ rfl) (.cons (.free _ rfl) (.cons (vr_agg hfr) (.cons (.free _ rfl) (.cons (.free _ rfl) (.cons (.free _ rfl) .nil)))))
 refine (meets_entry hm rfl (glob_ok hL) hR hv).mono fun e W' he => ?_
 obtain ⟨rfl, ho⟩ := he
 exact ⟨_, rfl, post_old rfl hW' ho (fun _ => trodAll_cons_mk (shut_bool Tryz.underlying4 _) trodAll_mk0) (trodAll_cons_mk (c0 W' ho) (trodAll_cons_mk (shut_int Tryz.underlying3 w1) (trodAll_cons_mk (shut_old laid_all maps_all sized_all in_types h2 ho) (trodAll_cons_mk (shut_int Tryz.underlying3 w3) (trodAll_cons_mk (Go.ChangeMaps.shut_string Tryz.underlying9 w4) (trodAll_cons_mk (shut_int Tryz.underlying3 w5) trodAll_mk0)))))) rfl⟩
end Go.Proofs.YtmladpbadglecaaGreatDoor
