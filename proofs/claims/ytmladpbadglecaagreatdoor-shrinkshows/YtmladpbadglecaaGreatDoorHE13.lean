/-
  Steps of the proof.
-/
import Derived.Test.YtmladpbadglecaaGreatDoorHE0
import Derived.Test.YtmladpbadglecaaGreatDoorHE7
import Derived.Test.YtmladpbadglecaaGreatDoorHE11
set_option linter.unusedSimpArgs false
set_option linter.unusedVariables false
namespace Go.Proofs.YtmladpbadglecaaGreatDoor
open Go Go.AM
set_option maxRecDepth 100000
set_option maxHeartbeats 0
def e218 : Ent := ⟨[.agg ⟨[uS 0 9 12, uS 1 1 2, uS 2 1 2, .slice none 0 0, .slice none 0 0, .slice none 0 0, .slice none 0 0, uS 3 1 2]⟩, .agg ⟨[uI 0, uI 0, uI 0]⟩, .slice none 0 0, .agg ⟨[uI 1, uT [], uI 0]⟩, uS 4 2 2], [o2, o3, o4, o5, o105], .tuple ⟨[uS 5 2 3, uI 4, uI 0]⟩, [.row [uI 2, uI 1] 5 BIG false 2]⟩
noncomputable def call218 : Call' := cK [6] [(13, entC [e200]), (45, entC [e202]), (9, entC [e213]), (46, entC [e214, e215, e216, e217])]
theorem cs218 : CallSound Tryz.prog call218 := cS (tab_sound (tab_cons (cE1 Tryz.func13 ok200) (tab_cons (cE1 Tryz.func45 ok202) (tab_cons (cE1 Tryz.func9 ok213) (tab_cons (con_ents Tryz.func46 rfl (ents_cons ok214 (ents_cons ok215 (ents_cons ok216 (ents_cons ok217 ents_nil))))) tab_end)))))
theorem ok218 : EntOk Tryz.prog 31 e218 := rE cs218
def e223 : Ent := ⟨[.agg ⟨[uS 0 9 12, uS 1 1 2, uS 2 1 2, .slice none 0 0, .slice none 0 0, .slice none 0 0, .slice none 0 0, uS 3 1 2]⟩, .agg ⟨[uI 0, uI 0, uI 0]⟩, .slice none 0 0, .agg ⟨[uI 1, uT [], uI 0]⟩, uS 4 2 2], [o2, o3, o4, o5, o105], uI 0, []⟩
noncomputable def call223 : Call' := cK [47, 84] [(13, entC [e200]), (45, entC [e202]), (46, entC [e214, e215, e216, e217, e221]), (9, entC [e222])]
theorem cs223 : CallSound Tryz.prog call223 := cS (tab_sound (tab_cons (cE1 Tryz.func13 ok200) (tab_cons (cE1 Tryz.func45 ok202) (tab_cons (con_ents Tryz.func46 rfl (ents_cons ok214 (ents_cons ok215 (ents_cons ok216 (ents_cons ok217 (ents_cons ok221 ents_nil)))))) (tab_cons (cE1 Tryz.func9 ok222) tab_end)))))
theorem ok223 : EntOk Tryz.prog 32 e223 := rE cs223
def e228 : Ent := ⟨[.agg ⟨[uS 0 9 12, uS 1 1 2, uS 2 1 2, .slice none 0 0, .slice none 0 0, .slice none 0 0, .slice none 0 0, uS 3 1 2]⟩, .agg ⟨[uI 0, uI 0, uI 0]⟩, .slice none 0 0, .agg ⟨[uI 1, uT [], uI 0]⟩, uS 4 2 2], [o2, o3, o4, o5, o98], uI 17, []⟩
noncomputable def call228 : Call' := cK [] [(45, entC [e226]), (46, entC [e227])]
theorem cs228 : CallSound Tryz.prog call228 := cS (tab_sound (tab_cons (cE1 Tryz.func45 ok226) (tab_cons (cE1 Tryz.func46 ok227) tab_end)))
theorem ok228 : EntOk Tryz.prog 32 e228 := rE cs228
end Go.Proofs.YtmladpbadglecaaGreatDoor
namespace Go.Proofs.YtmladpbadglecaaGreatDoor
open Go Go.AM
set_option maxRecDepth 100000
set_option maxHeartbeats 0
def e229 : Ent := ⟨[], [], .bool true, []⟩
noncomputable def call229 : Call' := cK [21, 10] [(29, entC [e2]), (30, entC [e199, e219, e220]), (31, entC [e218]), (9, entC [e222]), (32, entC [e223, e228])]
theorem cs229 : CallSound Tryz.prog call229 := cS (tab_sound (tab_cons (cE1 Tryz.func29 ok2) (tab_cons (con_ents Tryz.func30 rfl (ents_cons ok199 (ents_cons ok219 (ents_cons ok220 ents_nil)))) (tab_cons (cE1 Tryz.func31 ok218) (tab_cons (cE1 Tryz.func9 ok222) (tab_cons (con_ents Tryz.func32 rfl (ents_cons ok223 (ents_cons ok228 ents_nil))) tab_end))))))
theorem ok229 : EntOk Tryz.prog 14 e229 := rE cs229
end Go.Proofs.YtmladpbadglecaaGreatDoor
