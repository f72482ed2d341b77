/-
  For all answers, of bulk at most 1048576: possible ones made of numbers, with one and with two things changed, and raw ones, Message, Encode and Same of the program return what the reference model does; Decode leads back, with anything behind the encoding; two answers are the same exactly if their encodings are equal; and the documented examples hold (AnswerMessages, the second form's tied card).
-/
import Derived.Test.YtfgmplbclpadbaaGreatDoorMGg
import Derived.Test.YtfgmplbclpadbaaGreatDoorMGqd
import Derived.Test.YtfgmplbclpadbaaGreatDoorMGwa
import Derived.Test.YtfgmplbclpadbaaGreatDoorMGwb
import Derived.Test.YtfgmplbclpadbaaGreatDoorMGwc
import Derived.Test.YtfgmplbclpadbaaGreatDoorMGh
import Derived.Test.YtfgmplbclpadbaaGreatDoorMGj
import Derived.Test.YtfgmplbclpadbaaGreatDoorMGk
set_option linter.unusedSimpArgs false
set_option linter.unusedVariables false
namespace Go.Proofs.YtfgmplbclpadbaaGreatDoor
open Go Go.AM
open Go.ChangeShapes Go.WideShapes Go.ChangeAt Go.RowKit
set_option maxRecDepth 100000 in
theorem lifted (os : Os) (started : os.Started) (H : Type) (enc : TypeId × Value -> H) (F : Stop.Interp) :
  ReturnsInHanded {} Tryz.checked os 4 .any ((Rows.OpenSpec.upto Rows.answerMessagesSpec).preRow enc Tryz.prog Tryz.f4 Rows.answerMessagesUptoRow.domain false Rows.answerMessagesUptoRow.laid) (((Rows.OpenSpec.upto Rows.answerMessagesSpec).at F).post enc Tryz.prog Tryz.f4 false true false false) := by
 obtain ⟨places, hx⟩ := reads os enc
 refine returnsInHanded_of_row (C := Tryz.checked) (s := Rows.OpenSpec.upto Rows.answerMessagesSpec) own started noInit0 Tryz.func4
  (witness_row_atRef (enc := enc) (C := Tryz.checked) false (World.doorLaid Tryz.prog 127 os) #[.int .i64 0, .int .i64 0, .int .i64 0, .int .i64 0, rawZ, .string .empty, .slice none 0 0] rfl (varsB os) (heapB os) (okB os)
   (OpenSpec.preRow_of_cond 8 hx (by kernel_rfl) (fun k hk => by cases hk; kernel_rfl) (by kernel_rfl) (door_met os))) ?_
 intro W base args ds gs before hval hW _ hcond _ hL _ _
 exact contract H enc W base args ds gs before hval hW (hcond _ rfl) hL
theorem answerMessages_said : Rows.AnswerMessagesUptoSaid :=
 OpenClaim.holds_of_cond 4 Tryz.f4 rfl rfl rfl rfl rfl rfl rfl ⟨rfl, rfl, rfl, rfl, rfl⟩ rfl rfl rfl rfl rfl named4 Tryz.func4 joined
  inst4 wrap4
  (fun os started H enc _ F => by rw [OpenClaim.pre_eq_preRow]; exact lifted os started H enc F)
theorem plain (f : FuncId) (fn : Func) (hf : Tryz.pinned.checked.prog.funcNamed "culprit/culpritlaw31.AnswerMessages" = some f) (hfn : Tryz.pinned.checked.prog.funcs[f]? = some fn) :
  true = Tryz.pinned.checked.prog.looks [] /\ ∀ (j : Nat) t, fn.params[j]? = some t -> Tryz.pinned.checked.prog.wantsStandIn t = false := by
 obtain rfl : f = 4 := Option.some.inj (named4.symm.trans hf) |>.symm
 obtain rfl : fn = Tryz.f4 := (Option.some.inj (Tryz.func4.symm.trans hfn)).symm
 refine ⟨looksT, fun j t ht => ?_⟩
 rw [Tryz.params4] at ht
 have ht := Array.mem_of_getElem? ht
 have ht : t = 3 \/ t = 35 \/ t = 9 \/ t = 23 := by simpa using ht
 rcases ht with rfl | rfl | rfl | rfl
 ·exact stand3
 ·exact stand35
 ·exact stand9
 ·exact stand23
theorem answerMessages_card : Rows.AnswerMessagesUptoCardSaid :=
 Claim7.holds_tied_plain_at .later [] _ _ _ _ answerMessages_said (fun _ h => by cases h) (by kernel_rfl) (fun _ h => by cases h) answerMessagesUpto_row_tie rfl ⟨rfl, rfl⟩ mainT rfl plain goesF
#print axioms answerMessages_card
end Go.Proofs.YtfgmplbclpadbaaGreatDoor
