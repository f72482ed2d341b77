/-
  For all lists of accesses, Apart of the program returns what the reference model does, in whatever order they stand, and further accesses put nothing apart; and the documented examples hold (CommuteApart, the tied card, for arguments of any size).
-/
import Derived.Test.YtlhlkjhjoalhoaaGreatDoorCFg
import Derived.Test.YtlhlkjhjoalhoaaGreatDoorCFqd
import Derived.Test.YtlhlkjhjoalhoaaGreatDoorCFwa
import Derived.Test.YtlhlkjhjoalhoaaGreatDoorCFwb
import Derived.Test.YtlhlkjhjoalhoaaGreatDoorCFwc
import Derived.Test.YtlhlkjhjoalhoaaGreatDoorCFh
import Derived.Test.YtlhlkjhjoalhoaaGreatDoorCFj
set_option linter.unusedSimpArgs false
set_option linter.unusedVariables false
namespace Go.Proofs.YtlhlkjhjoalhoaaGreatDoor
open Go Go.AM
open Go.ChangeShapes Go.WideShapes Go.ChangeAt Go.RowKit
set_option maxRecDepth 100000 in
theorem lifted (os : Os) (started : os.Started) (H : Type) (enc : TypeId × Value → H) (F : Stop.Interp) :
  ReturnsInHanded {} Tryz.checked os 3 .any ((OpenSpec.ofChange Rows.commuteApartSpec).preRow enc Tryz.prog Tryz.f3 Rows.commuteApartRow.domain false Rows.commuteApartRow.laid) (((OpenSpec.ofChange Rows.commuteApartSpec).at F).post enc Tryz.prog Tryz.f3 false true false false) := by
 obtain ⟨places, hx⟩ := reads os enc
 refine returnsInHanded_of_row (C := Tryz.checked) (s := OpenSpec.ofChange Rows.commuteApartSpec) own started noInit0 Tryz.func3
  (witness_row_atRef (enc := enc) (C := Tryz.checked) false (World.doorLaid Tryz.prog 135 os) #[.slice none 0 0, .slice none 0 0] rfl (varsB os) (heapB os) (okB os)
   (OpenSpec.preRow_of_cond 8 hx (by kernel_rfl) (fun k hk => by cases hk) (by kernel_rfl) (door_met os))) ?_
 intro W base args ds gs before hval hW _ _ hw hL _ _
 exact contract H enc W base args ds gs before hval hW hw hL
theorem commuteApart_said : Rows.CommuteApartSaid :=
 OpenClaim.holds_of_cond 3 Tryz.f3 rfl rfl rfl rfl rfl rfl rfl ⟨rfl, rfl, rfl, rfl, rfl⟩ rfl rfl rfl rfl rfl named3 Tryz.func3 joined
  inst3 wrap3
  (fun os started H enc _ F => by rw [OpenClaim.pre_eq_preRow]; exact lifted os started H enc F)
theorem plain (f : FuncId) (fn : Func) (hf : Tryz.pinned.checked.prog.funcNamed "culprit/culpritlaw12.CommuteApart" = some f) (hfn : Tryz.pinned.checked.prog.funcs[f]? = some fn) :
  true = Tryz.pinned.checked.prog.looks [] ∧ ∀ (j : Nat) t, fn.params[j]? = some t → Tryz.pinned.checked.prog.wantsStandIn t = false := by
 obtain rfl : f = 3 := Option.some.inj (named3.symm.trans hf) |>.symm
 obtain rfl : fn = Tryz.f3 := (Option.some.inj (Tryz.func3.symm.trans hfn)).symm
 refine ⟨looksT, fun j t ht => ?_⟩
 rw [Tryz.params3] at ht
 obtain rfl : t = 22 := by simpa using Array.mem_of_getElem? ht
 exact stand22
theorem commuteApart_card : Rows.CommuteApartCardSaid :=
 Claim7.holds_tied_plain_at .later [] _ _ _ _ commuteApart_said (fun _ h => by cases h) (by kernel_rfl) (fun _ h => by cases h) commuteApart_row_tie rfl ⟨rfl, rfl⟩ mainT rfl plain goesF
#print axioms commuteApart_card
end Go.Proofs.YtlhlkjhjoalhoaaGreatDoor
