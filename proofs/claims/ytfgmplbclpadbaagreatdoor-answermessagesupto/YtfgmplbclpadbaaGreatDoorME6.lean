/-
  Steps of the proof.
-/
import Derived.Test.YtfgmplbclpadbaaGreatDoorME0
import Derived.Test.YtfgmplbclpadbaaGreatDoorME1
import Derived.Test.YtfgmplbclpadbaaGreatDoorME3
import Derived.Test.YtfgmplbclpadbaaGreatDoorME4
set_option linter.unusedSimpArgs false
set_option linter.unusedVariables false
namespace Go.Proofs.YtfgmplbclpadbaaGreatDoor
open Go Go.AM
set_option maxRecDepth 100000
set_option maxHeartbeats 0
def e72 : Ent := ⟨[], [], .bool true, []⟩
noncomputable def call72 : Call' := cK [43, 64, 66, 44, 68, 113, 115, 116, 182, 180, 119, 181, 179, 183, 117, 110, 96, 118, 120, 112, 122] [(41, entC [e2]), (67, entC [e4]), (114, entC [e5, e15, e19]), (97, entC [e6, e16, e69]), (91, entC [e12, e64]), (121, entC [e14, e18]), (151, entC [e29, e34, e39]), (42, entC [e56]), (63, entC [e57]), (65, entC [e58, e59, e65, e70]), (111, entC [e61, e63, e67, e68, e71])]
theorem cs72 : CallSound Tryz.prog call72 := cS (tab_sound (tab_cons (cE1 Tryz.func41 ok2) (tab_cons (cE1 Tryz.func67 ok4) (tab_cons (con_ents Tryz.func114 rfl (ents_cons ok5 (ents_cons ok15 (ents_cons ok19 ents_nil)))) (tab_cons (con_ents Tryz.func97 rfl (ents_cons ok6 (ents_cons ok16 (ents_cons ok69 ents_nil)))) (tab_cons (con_ents Tryz.func91 rfl (ents_cons ok12 (ents_cons ok64 ents_nil))) (tab_cons (con_ents Tryz.func121 rfl (ents_cons ok14 (ents_cons ok18 ents_nil))) (tab_cons (con_ents Tryz.func151 rfl (ents_cons ok29 (ents_cons ok34 (ents_cons ok39 ents_nil)))) (tab_cons (cE1 Tryz.func42 ok56) (tab_cons (cE1 Tryz.func63 ok57) (tab_cons (con_ents Tryz.func65 rfl (ents_cons ok58 (ents_cons ok59 (ents_cons ok65 (ents_cons ok70 ents_nil))))) (tab_cons (con_ents Tryz.func111 rfl (ents_cons ok61 (ents_cons ok63 (ents_cons ok67 (ents_cons ok68 (ents_cons ok71 ents_nil)))))) tab_end))))))))))))
theorem ok72 : EntOk Tryz.prog 13 e72 := rE cs72
end Go.Proofs.YtfgmplbclpadbaaGreatDoor
