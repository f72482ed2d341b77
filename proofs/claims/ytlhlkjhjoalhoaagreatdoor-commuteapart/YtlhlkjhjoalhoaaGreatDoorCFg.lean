/-
  From the walk to a call in a world: the contract of the law.
-/
import Derived.Test.YtlhlkjhjoalhoaaGreatDoorCEn
set_option linter.unusedSimpArgs false
set_option linter.unusedVariables false
namespace Go.Proofs.YtlhlkjhjoalhoaaGreatDoor
open Go Go.AM
open Go.ChangeShapes Go.WideShapes Go.ChangeAt Go.RowKit
theorem glob_ok {W : World} (h : laidMetH Tryz.prog Rows.commuteApartRow.laid W) : ∀ g c, gCells g = some c → ∃ el fz, W.heap[g]? = some (.cells ⟨c⟩ el fz) := by
 rw [MakeChecks.laidMetH_plain _ _ _ (by kernel_rfl)] at h
 exact laid_glob h (by kernel_rfl)
theorem len_ok {H : Type} {d0 d1 : DataW H} {l : List Int} (hl : l = [] ∨ ∃ es sp, d0 = .slice es sp ∧ l.length = es.length) (hw : (DataW.weightsEach Tryz.prog [22, 22] [d0, d1]).all (· ≤ reachBytes) = true) : l.length < 4611686018427387904 := by
 rcases hl with rfl | ⟨es, sp, rfl, e⟩
 ·decide
 ·simp only [DataW.weightsEach, DataW.weights, Tryz.underlying22, List.cons_append, List.all_cons, Bool.and_eq_true, decide_eq_true_eq] at hw
  have hb : Tryz.prog.bytesOf 3 = 8 := by kernel_rfl
  have h1 := hw.1
  rw [hb] at h1
  unfold reachBytes at h1
  omega
theorem len_ok2 {H : Type} {d0 d1 : DataW H} {l : List Int} (hl : l = [] ∨ ∃ es sp, d1 = .slice es sp ∧ l.length = es.length) (hw : (DataW.weightsEach Tryz.prog [22, 22] [d0, d1]).all (· ≤ reachBytes) = true) : l.length < 4611686018427387904 := by
 have h2 : (DataW.weightsEach Tryz.prog [22, 22] [d1, d0]).all (· ≤ reachBytes) = true := by
  simp only [DataW.weightsEach, List.append_nil, List.all_append, Bool.and_eq_true] at hw ⊢
  exact ⟨hw.2, hw.1⟩
 exact len_ok hl h2
set_option maxRecDepth 100000 in
theorem contract (H : Type) (enc : TypeId × Value → H) (W : World) (base : Nat) (args : Array Value) (ds gs : List (DataW H)) (before : List MemPlace)
  (hval : ∀ (j : Nat) t v, Tryz.f3.params[j]? = some t → args[j]? = some v → Value.okWide Tryz.prog W .any base t v)
  (hW : DataW.Whole enc Tryz.prog Tryz.f3.params.toList Rows.commuteApartSpec.vars false W args.toList ds gs before)
  (hw : (DataW.weightsEach Tryz.prog (Tryz.f3.params.toList ++ (OpenSpec.ofChange Rows.commuteApartSpec).bare.plain.varTypes Tryz.prog) (ds ++ gs)).all (· ≤ reachBytes) = true)
  (hL : laidMetH Tryz.prog Rows.commuteApartRow.laid W) :
  Calls Tryz.prog 3 args W fun e W' => ∃ v, e = .returned v ∧ Rows.commuteApartSpec.post enc Tryz.prog Tryz.f3 false true false false W args v W' := by
 have hW' := hW
 obtain ⟨p, q, hA0, hV, rfl, hfz, hnd⟩ := hW
 have hA : DataW.TrodAll enc Tryz.prog W 0 (fun _ => true) true Tryz.f3.params.toList args.toList ds p := hA0
 rw [Tryz.params3] at hA hval hw
 obtain ⟨v0, vs0, d0, ds0, p0, q0, hargs, rfl, rfl, h0, r0⟩ := trodAll_cons hA
 obtain ⟨v1, vs1, d1, ds1, p1, q1, rfl, rfl, rfl, h1, r1⟩ := trodAll_cons r0
 obtain ⟨rfl, rfl, rfl⟩ := trodAll_nil r1
 obtain rfl : args = #[v0, v1] := by cases args; simp_all
 obtain ⟨rfl, rfl⟩ := trodVars_none hV
 obtain ⟨l, x0, a0, b0, c0⟩ := arg_ints Tryz.underlying22 Tryz.underlying3 (by kernel_rfl) (hval 0 22 v0 rfl rfl) h0
 obtain ⟨m, x1, a1, b1, c1⟩ := arg_ints Tryz.underlying22 Tryz.underlying3 (by kernel_rfl) (hval 1 22 v1 rfl rfl) h1
 clear hA0 hA
 have hw : (DataW.weightsEach Tryz.prog [22, 22] [d0, d1]).all (· ≤ reachBytes) = true := hw
 obtain ⟨s0, e0, f0⟩ := a0.sl 0
 obtain ⟨s1, e1, f1⟩ := a1.sl 1
 have q0 := len_ok b0 hw
 have q1 := len_ok2 b1 hw
 have hok : ok_law l m = true := by
  unfold ok_law
  rw [a0.rng, a1.rng, decide_eq_true q0, decide_eq_true q1]; rfl
 have hm := law_m e0 e1 hok
 have hR : RowsAt W [x0, x1] [ints l, ints m] := RowsAt.cons a0.row (all_free0_ints l) (RowsAt.cons a1.row (all_free0_ints m) RowsAt.nil)
 have hv : VRl (fun i => (([x0, x1] : List (Option Bx))[i]?).getD none) [s0, s1] [v0, v1] := .cons (f0 _ rfl) (.cons (f1 _ rfl) .nil)
 refine (meets_entry hm rfl (glob_ok hL) hR hv).mono fun e W' he => ?_
 obtain ⟨rfl, ho⟩ := he
 exact ⟨_, rfl, post_old rfl hW' ho (fun _ => trodAll_cons_mk (shut_bool Tryz.underlying4 _) trodAll_mk0) (trodAll_cons_mk (c0 W' ho) (trodAll_cons_mk (c1 W' ho) trodAll_mk0)) rfl⟩
end Go.Proofs.YtlhlkjhjoalhoaaGreatDoor
