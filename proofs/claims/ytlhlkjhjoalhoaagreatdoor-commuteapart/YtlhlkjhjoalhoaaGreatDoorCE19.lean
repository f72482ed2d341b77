/-
  Steps of the proof.
-/
import Derived.Test.YtlhlkjhjoalhoaaGreatDoorCE11
import Derived.Test.YtlhlkjhjoalhoaaGreatDoorCE17
import Derived.Test.YtlhlkjhjoalhoaaGreatDoorCE18
set_option linter.unusedSimpArgs false
set_option linter.unusedVariables false
namespace Go.Proofs.YtlhlkjhjoalhoaaGreatDoor
open Go Go.AM
set_option maxRecDepth 100000
set_option maxHeartbeats 0
def e302 : Ent := ⟨[], [], .bool true, []⟩
noncomputable def call302 : Call' := callK Tryz.prog [14, 15] (tabOf [(9, entC [e5]), (10, entC [e230]), (11, entC [e265, e267, e268]), (12, entC [e298]), (13, entC [e301])]) 3000
theorem cs302 : CallSound Tryz.prog call302 := callK_sound Fits pkS (tab_sound (tab_cons (con_ents Tryz.func9 rfl (ents_cons ok5 ents_nil)) (tab_cons (con_ents Tryz.func10 rfl (ents_cons ok230 ents_nil)) (tab_cons (con_ents Tryz.func11 rfl (ents_cons ok265 (ents_cons ok267 (ents_cons ok268 ents_nil)))) (tab_cons (con_ents Tryz.func12 rfl (ents_cons ok298 ents_nil)) (tab_cons (con_ents Tryz.func13 rfl (ents_cons ok301 ents_nil)) tab_end)))))) 3000
theorem ok302 : EntOk Tryz.prog 8 e302 := runE_ok Fits pkS cs302 (n := 4000) (by kernel_rfl) (by kernel_rfl) (by kernel_rfl)
end Go.Proofs.YtlhlkjhjoalhoaaGreatDoor
