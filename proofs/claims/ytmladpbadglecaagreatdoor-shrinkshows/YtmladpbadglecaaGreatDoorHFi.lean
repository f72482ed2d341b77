/-
  Shrinking keeps what is shown: Smaller of the program gives the words that the reference gives, each smaller and in order (ShrinkShows, the tied card, for arguments of any size).
-/
import Derived.Test.YtmladpbadglecaaGreatDoorHFg
import Derived.Test.YtmladpbadglecaaGreatDoorHFqd
import Derived.Test.YtmladpbadglecaaGreatDoorHFwa
import Derived.Test.YtmladpbadglecaaGreatDoorHGz
import Derived.Test.YtmladpbadglecaaGreatDoorHFwc
import Derived.Test.YtmladpbadglecaaGreatDoorHFh
import Derived.Test.YtmladpbadglecaaGreatDoorHFj
set_option linter.unusedSimpArgs false
set_option linter.unusedVariables false
namespace Go.Proofs.YtmladpbadglecaaGreatDoor
open Go Go.AM
open Go.ChangeShapes Go.WideShapes Go.ChangeAt Go.RowKit
set_option maxRecDepth 100000 in
theorem lifted (os : Os) (started : os.Started) (H : Type) (enc : TypeId × Value -> H) (F : Stop.Interp) :
  ReturnsInHanded {} Tryz.checked os 3 .any ((OpenSpec.ofChange Rows.shrinkShowsSpec).preRow enc Tryz.prog Tryz.f3 Rows.shrinkShowsRow.domain false Rows.shrinkShowsRow.laid) (((OpenSpec.ofChange Rows.shrinkShowsSpec).at F).post enc Tryz.prog Tryz.f3 false true false false) := by
 obtain ⟨places, hx⟩ := reads os enc
 refine returnsInHanded_of_row (C := Tryz.checked) (s := OpenSpec.ofChange Rows.shrinkShowsSpec) own started noInit0 Tryz.func3
  (witness_row_atRef (enc := enc) (C := Tryz.checked) false (World.doorLaid Tryz.prog 127 os) #[.slice none 0 0, .int .i64 0, rawZ, .int .i64 0, .string .empty, .int .i64 0] rfl (varsB os) (heapB os) (okB os)
   (OpenSpec.preRow_of_cond 8 hx (by kernel_rfl) (fun k hk => by cases hk) (by kernel_rfl) (door_met os))) ?_
 intro W base args ds gs before hval hW _ _ hw hL _ _
 exact contract H enc W base args ds gs before hval hW hw hL
theorem shrinkShows_said : Rows.ShrinkShowsSaid :=
 OpenClaim.holds_of_cond 3 Tryz.f3 rfl rfl rfl rfl rfl rfl rfl ⟨rfl, rfl, rfl, rfl, rfl⟩ rfl rfl rfl rfl rfl named3 Tryz.func3 joined
  inst3 wrap3
  (fun os started H enc _ F => by rw [OpenClaim.pre_eq_preRow]; exact lifted os started H enc F)
theorem plain (f : FuncId) (fn : Func) (hf : Tryz.pinned.checked.prog.funcNamed "culprit/culpritlaw14.ShrinkShows" = some f) (hfn : Tryz.pinned.checked.prog.funcs[f]? = some fn) :
  true = Tryz.pinned.checked.prog.looks [] /\ ∀ (j : Nat) t, fn.params[j]? = some t -> Tryz.pinned.checked.prog.wantsStandIn t = false := by
 obtain rfl : f = 3 := Option.some.inj (named3.symm.trans hf) |>.symm
 obtain rfl : fn = Tryz.f3 := (Option.some.inj (Tryz.func3.symm.trans hfn)).symm
 refine ⟨looksT, fun j t ht => ?_⟩
 rw [Tryz.params3] at ht
 have ht := Array.mem_of_getElem? ht
 have ht : t = 22 \/ t = 3 \/ t = 28 \/ t = 3 \/ t = 9 \/ t = 3 := by simpa using ht
 rcases ht with rfl | rfl | rfl | rfl | rfl | rfl
 ·exact stand22
 ·exact stand3
 ·exact stand28
 ·exact stand3
 ·exact stand9
 ·exact stand3
theorem shrinkShows_card : Rows.ShrinkShowsCardSaid :=
 Claim7.holds_tied_plain_at .later [] _ _ _ _ shrinkShows_said (fun _ h => by cases h) (by kernel_rfl) (fun _ h => by cases h) shrinkShows_row_tie rfl ⟨rfl, rfl⟩ mainT rfl plain goesF
#print axioms shrinkShows_card
end Go.Proofs.YtmladpbadglecaaGreatDoor
