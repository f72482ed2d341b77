/-
  For all bytes, of bulk at most 1048576: of encodings of answers, cut off, with a byte changed, or with a list in the place of another one, and raw ones, Decode of the program returns what the reference model does; and the documented examples hold (AnswerReads, the second form's tied card).
-/
import Derived.Test.YtfgmplbclpadbaaGreatDoorRFg
import Derived.Test.YtfgmplbclpadbaaGreatDoorRFqd
import Derived.Test.YtfgmplbclpadbaaGreatDoorRFwa
import Derived.Test.YtfgmplbclpadbaaGreatDoorRFwb
import Derived.Test.YtfgmplbclpadbaaGreatDoorRFwc
import Derived.Test.YtfgmplbclpadbaaGreatDoorRFh
import Derived.Test.YtfgmplbclpadbaaGreatDoorRFj
import Derived.Test.YtfgmplbclpadbaaGreatDoorRFk
set_option linter.unusedSimpArgs false
set_option linter.unusedVariables false
namespace Go.Proofs.YtfgmplbclpadbaaGreatDoor
open Go Go.AM
open Go.ChangeShapes Go.WideShapes Go.ChangeAt Go.RowKit
set_option maxRecDepth 100000 in
theorem lifted (os : Os) (started : os.Started) (H : Type) (enc : TypeId × Value -> H) (F : Stop.Interp) :
  ReturnsInHanded {} Tryz.checked os 3 .any ((Rows.OpenSpec.upto Rows.answerReadsSpec).preRow enc Tryz.prog Tryz.f3 Rows.answerReadsUptoRow.domain false Rows.answerReadsUptoRow.laid) (((Rows.OpenSpec.upto Rows.answerReadsSpec).at F).post enc Tryz.prog Tryz.f3 false true false false) := by
 obtain ⟨places, hx⟩ := reads os enc
 refine returnsInHanded_of_row (C := Tryz.checked) (s := Rows.OpenSpec.upto Rows.answerReadsSpec) own started noInit0 Tryz.func3
  (witness_row_atRef (enc := enc) (C := Tryz.checked) false (World.doorLaid Tryz.prog 127 os) #[.int .i64 0, .int .i64 0, .int .i64 0, .int .i64 0, .slice none 0 0, .slice none 0 0] rfl (varsB os) (heapB os) (okB os)
   (OpenSpec.preRow_of_cond 8 hx (by kernel_rfl) (fun k hk => by cases hk; kernel_rfl) (by kernel_rfl) (door_met os))) ?_
 intro W base args ds gs before hval hW _ hcond _ hL _ _
 exact contract H enc W base args ds gs before hval hW (hcond _ rfl) hL
theorem answerReads_said : Rows.AnswerReadsUptoSaid :=
 OpenClaim.holds_of_cond 3 Tryz.f3 rfl rfl rfl rfl rfl rfl rfl ⟨rfl, rfl, rfl, rfl, rfl⟩ rfl rfl rfl rfl rfl named3 Tryz.func3 joined
  inst3 wrap3
  (fun os started H enc _ F => by rw [OpenClaim.pre_eq_preRow]; exact lifted os started H enc F)
theorem plain (f : FuncId) (fn : Func) (hf : Tryz.pinned.checked.prog.funcNamed "culprit/culpritlaw31.AnswerReads" = some f) (hfn : Tryz.pinned.checked.prog.funcs[f]? = some fn) :
  true = Tryz.pinned.checked.prog.looks [] /\ ∀ (j : Nat) t, fn.params[j]? = some t -> Tryz.pinned.checked.prog.wantsStandIn t = false := by
 obtain rfl : f = 3 := Option.some.inj (named3.symm.trans hf) |>.symm
 obtain rfl : fn = Tryz.f3 := (Option.some.inj (Tryz.func3.symm.trans hfn)).symm
 refine ⟨looksT, fun j t ht => ?_⟩
 rw [Tryz.params3] at ht
 have ht := Array.mem_of_getElem? ht
 have ht : t = 3 \/ t = 22 \/ t = 23 := by simpa using ht
 rcases ht with rfl | rfl | rfl
 ·exact stand3
 ·exact stand22
 ·exact stand23
theorem answerReads_card : Rows.AnswerReadsUptoCardSaid :=
 Claim7.holds_tied_plain_at .later [] _ _ _ _ answerReads_said (fun _ h => by cases h) (by kernel_rfl) (fun _ h => by cases h) answerReadsUpto_row_tie rfl ⟨rfl, rfl⟩ mainT rfl plain goesF
#print axioms answerReads_card
end Go.Proofs.YtfgmplbclpadbaaGreatDoor
