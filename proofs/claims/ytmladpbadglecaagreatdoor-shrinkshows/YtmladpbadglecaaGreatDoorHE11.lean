/-
  Steps of the proof.
-/
import Derived.Test.YtmladpbadglecaaGreatDoorHE10
import Derived.Test.YtmladpbadglecaaGreatDoorHE2
set_option linter.unusedSimpArgs false
set_option linter.unusedVariables false
namespace Go.Proofs.YtmladpbadglecaaGreatDoor
open Go Go.AM
set_option maxRecDepth 100000
set_option maxHeartbeats 0
def e67 : Ent := ⟨[.agg ⟨[uS 0 9 12, uS 1 1 2, uS 2 1 2, .slice none 0 0, .slice none 0 0, .slice none 0 0, .slice none 0 0, uS 3 1 2]⟩, .agg ⟨[uI 0, uI 0, uI 0]⟩, .slice none 0 0, .slice none 0 0], [o2, o3, o4, o5], .tuple ⟨[.agg ⟨[uI 0, uT [], uI 0, uI 3, uI 0, uI 0, uB 58, uB 96, uB 155, uB 48, uB 70, uB 84, uB 237, uB 89, uB 134, uB 236, uB 82, uB 1, uB 27, uB 230, uB 176, uB 119, uS 4 2 7, uS 7 3 4, uS 8 3 4, .slice none 0 0]⟩, uI 0]⟩, [.row [uI 1, uI 0, uI 0, uS 5 3 3, uI 0, uI 1, uI 0, uI 1, uS 6 2 2, uI 0] 4 BIG false 10, .row [uI 1, uI 1, uI 1] 5 BIG false 3, .row [uI 1, uI 1] 6 BIG false 2, .row [uI 0, uI 0, uI 0] 7 BIG false 3, .row [uS 9 1 4, uS 10 1 4, uS 11 2 5] 8 BIG false 3, .row [uI 5, uI 1, .bool true] 9 BIG false 3, o14, o35]⟩
noncomputable def call67 : Call' := cK [] [(82, entC [e19]), (83, entC [e66])]
theorem cs67 : CallSound Tryz.prog call67 := cS (tab_sound (tab_cons (cE1 Tryz.func82 ok19) (tab_cons (cE1 Tryz.func83 ok66) tab_end)))
theorem ok67 : EntOk Tryz.prog 45 e67 := rE cs67
def e101 : Ent := ⟨[.agg ⟨[uS 0 9 12, uS 1 1 2, uS 2 1 2, .slice none 0 0, .slice none 0 0, .slice none 0 0, .slice none 0 0, uS 3 1 2]⟩, .agg ⟨[uI 0, uI 0, uI 0]⟩, .slice none 0 0, uS 4 1 2], [o2, o3, o4, o5, o59], .tuple ⟨[.agg ⟨[uI 0, uT [], uI 0, uI 3, uI 0, uI 0, uB 72, uB 20, uB 25, uB 10, uB 163, uB 150, uB 148, uB 240, uB 251, uB 178, uB 242, uB 218, uB 99, uB 105, uB 120, uB 91, uS 5 2 7, uS 8 3 4, uS 9 3 4, .slice none 0 0]⟩, uI 0]⟩, [.row [uI 1, uI 0, uI 0, uS 6 3 3, uI 1, uI 1, uI 0, uI 1, uS 7 2 2, uI 0] 5 BIG false 10, o83, o84, o85, o86, o14, o25, o87]⟩
noncomputable def call101 : Call' := cK [] [(82, entC [e78]), (83, entC [e100])]
theorem cs101 : CallSound Tryz.prog call101 := cS (tab_sound (tab_cons (cE1 Tryz.func82 ok78) (tab_cons (cE1 Tryz.func83 ok100) tab_end)))
theorem ok101 : EntOk Tryz.prog 45 e101 := rE cs101
def e134 : Ent := ⟨[.agg ⟨[uS 0 9 12, uS 1 1 2, uS 2 1 2, .slice none 0 0, .slice none 0 0, .slice none 0 0, .slice none 0 0, uS 3 1 2]⟩, .agg ⟨[uI 0, uI 0, uI 0]⟩, .slice none 0 0, uS 4 1 2], [o2, o3, o4, o5, o91], .tuple ⟨[.agg ⟨[uI 0, uT [], uI 0, uI 3, uI 0, uI 0, uB 180, uB 63, uB 18, uB 108, uB 214, uB 38, uB 232, uB 198, uB 203, uB 76, uB 70, uB 192, uB 161, uB 60, uB 185, uB 111, uS 5 2 7, uS 8 3 4, uS 9 3 4, .slice none 0 0]⟩, uI 0]⟩, [.row [uI 1, uI 0, uI 0, uS 6 3 3, uI 2, uI 1, uI 0, uI 1, uS 7 2 2, uI 0] 5 BIG false 10, o83, o84, o85, o86, o14, o25, o87]⟩
noncomputable def call134 : Call' := cK [] [(82, entC [e112]), (83, entC [e133])]
theorem cs134 : CallSound Tryz.prog call134 := cS (tab_sound (tab_cons (cE1 Tryz.func82 ok112) (tab_cons (cE1 Tryz.func83 ok133) tab_end)))
theorem ok134 : EntOk Tryz.prog 45 e134 := rE cs134
def e156 : Ent := ⟨[.agg ⟨[uS 0 9 12, uS 1 1 2, uS 2 1 2, .slice none 0 0, .slice none 0 0, .slice none 0 0, .slice none 0 0, uS 3 1 2]⟩, .agg ⟨[uI 0, uI 0, uI 0]⟩, .slice none 0 0, uS 4 2 3], [o2, o3, o4, o5, o95], .tuple ⟨[.agg ⟨[uI 0, uT [], uI 0, uI 3, uI 0, uI 0, uB 29, uB 136, uB 95, uB 32, uB 141, uB 88, uB 125, uB 170, uB 188, uB 229, uB 157, uB 130, uB 58, uB 231, uB 36, uB 106, uS 5 2 7, uS 8 3 4, uS 9 3 4, .slice none 0 0]⟩, uI 0]⟩, [.row [uI 1, uI 0, uI 0, uS 6 3 3, uI 0, uI 1, uI 0, uI 1, uS 7 2 2, uI 1] 5 BIG false 10, o83, o84, o85, o86, o14, o25, o87]⟩
noncomputable def call156 : Call' := cK [] [(82, entC [e141]), (83, entC [e155])]
theorem cs156 : CallSound Tryz.prog call156 := cS (tab_sound (tab_cons (cE1 Tryz.func82 ok141) (tab_cons (cE1 Tryz.func83 ok155) tab_end)))
theorem ok156 : EntOk Tryz.prog 45 e156 := rE cs156
def e179 : Ent := ⟨[.agg ⟨[uS 0 9 12, uS 1 1 2, uS 2 1 2, .slice none 0 0, .slice none 0 0, .slice none 0 0, .slice none 0 0, uS 3 1 2]⟩, .agg ⟨[uI 0, uI 0, uI 0]⟩, .slice none 0 0, uS 4 2 3], [o2, o3, o4, o5, o98], .tuple ⟨[.agg ⟨[uI 0, uT [], uI 0, uI 3, uI 0, uI 0, uB 214, uB 27, uB 187, uB 92, uB 94, uB 182, uB 167, uB 110, uB 238, uB 81, uB 184, uB 157, uB 112, uB 84, uB 175, uB 248, uS 5 2 7, uS 8 3 4, uS 9 3 4, .slice none 0 0]⟩, uI 0]⟩, [o104, o83, o84, o85, o86, o14, o25, o87]⟩
noncomputable def call179 : Call' := cK [] [(82, entC [e163]), (83, entC [e178])]
theorem cs179 : CallSound Tryz.prog call179 := cS (tab_sound (tab_cons (cE1 Tryz.func82 ok163) (tab_cons (cE1 Tryz.func83 ok178) tab_end)))
theorem ok179 : EntOk Tryz.prog 45 e179 := rE cs179
def e198 : Ent := ⟨[.agg ⟨[uS 0 9 12, uS 1 1 2, uS 2 1 2, .slice none 0 0, .slice none 0 0, .slice none 0 0, .slice none 0 0, uS 3 1 2]⟩, .agg ⟨[uI 0, uI 0, uI 0]⟩, .slice none 0 0, uS 4 2 3], [o2, o3, o4, o5, o105], .tuple ⟨[.agg ⟨[uI 1, uT [116], uI 0, uI 2, uI 0, uI 0, uB 103, uB 150, uB 50, uB 133, uB 138, uB 72, uB 75, uB 72, uB 19, uB 163, uB 86, uB 13, uB 15, uB 248, uB 117, uB 4, uS 5 2 7, uS 8 2 3, uS 9 2 3, .slice none 0 0]⟩, uI 0]⟩, [o119, o83, o84, o63, o120, o14, o25]⟩
noncomputable def call198 : Call' := cK [] [(82, entC [e184]), (83, entC [e197])]
theorem cs198 : CallSound Tryz.prog call198 := cS (tab_sound (tab_cons (cE1 Tryz.func82 ok184) (tab_cons (cE1 Tryz.func83 ok197) tab_end)))
theorem ok198 : EntOk Tryz.prog 45 e198 := rE cs198
def e202 : Ent := ⟨[.agg ⟨[uS 0 9 12, uS 1 1 2, uS 2 1 2, .slice none 0 0, .slice none 0 0, .slice none 0 0, .slice none 0 0, uS 3 1 2]⟩, .agg ⟨[uI 0, uI 0, uI 0]⟩, .slice none 0 0, uS 4 2 2], [o2, o3, o4, o5, o105], .tuple ⟨[.agg ⟨[uI 1, uT [116], uI 0, uI 2, uI 0, uI 0, uB 103, uB 150, uB 50, uB 133, uB 138, uB 72, uB 75, uB 72, uB 19, uB 163, uB 86, uB 13, uB 15, uB 248, uB 117, uB 4, uS 5 2 7, uS 8 2 3, uS 9 2 3, .slice none 0 0]⟩, uI 0]⟩, [o119, o83, o84, o63, o120, o14, o25]⟩
noncomputable def call202 : Call' := cK [] [(83, entC [e197]), (82, entC [e201])]
theorem cs202 : CallSound Tryz.prog call202 := cS (tab_sound (tab_cons (cE1 Tryz.func83 ok197) (tab_cons (cE1 Tryz.func82 ok201) tab_end)))
theorem ok202 : EntOk Tryz.prog 45 e202 := rE cs202
def e226 : Ent := ⟨[.agg ⟨[uS 0 9 12, uS 1 1 2, uS 2 1 2, .slice none 0 0, .slice none 0 0, .slice none 0 0, .slice none 0 0, uS 3 1 2]⟩, .agg ⟨[uI 0, uI 0, uI 0]⟩, .slice none 0 0, uS 4 2 2], [o2, o3, o4, o5, o98], .tuple ⟨[.agg ⟨[uI 0, uT [], uI 0, uI 3, uI 0, uI 0, uB 214, uB 27, uB 187, uB 92, uB 94, uB 182, uB 167, uB 110, uB 238, uB 81, uB 184, uB 157, uB 112, uB 84, uB 175, uB 248, uS 5 2 7, uS 8 3 4, uS 9 3 4, .slice none 0 0]⟩, uI 0]⟩, [o104, o83, o84, o85, o86, o14, o25, o87]⟩
noncomputable def call226 : Call' := cK [] [(83, entC [e178]), (82, entC [e225])]
theorem cs226 : CallSound Tryz.prog call226 := cS (tab_sound (tab_cons (cE1 Tryz.func83 ok178) (tab_cons (cE1 Tryz.func82 ok225) tab_end)))
theorem ok226 : EntOk Tryz.prog 45 e226 := rE cs226
end Go.Proofs.YtmladpbadglecaaGreatDoor
namespace Go.Proofs.YtmladpbadglecaaGreatDoor
open Go Go.AM
set_option maxRecDepth 100000
set_option maxHeartbeats 0
def e199 : Ent := ⟨[.agg ⟨[uS 0 9 12, uS 1 1 2, uS 2 1 2, .slice none 0 0, .slice none 0 0, .slice none 0 0, .slice none 0 0, uS 3 1 2]⟩, .agg ⟨[uI 0, uI 0, uI 0]⟩, .slice none 0 0, .agg ⟨[uI 1, uT [], uI 0]⟩, uI 6], [o2, o3, o4, o5], .tuple ⟨[uS 4 2 3, uI 6, uI 0]⟩, [.row [uI 2, uI 1] 4 BIG false 2]⟩
noncomputable def call199 : Call' := cK [44, 80, 81, 6, 28] [(43, entC [e4]), (45, entC [e67, e101, e134, e156, e179, e198])]
theorem cs199 : CallSound Tryz.prog call199 := cS (tab_sound (tab_cons (cE1 Tryz.func43 ok4) (tab_cons (con_ents Tryz.func45 rfl (ents_cons ok67 (ents_cons ok101 (ents_cons ok134 (ents_cons ok156 (ents_cons ok179 (ents_cons ok198 ents_nil))))))) tab_end)))
theorem ok199 : EntOk Tryz.prog 30 e199 := rE cs199
def e219 : Ent := ⟨[.agg ⟨[uS 0 9 12, uS 1 1 2, uS 2 1 2, .slice none 0 0, .slice none 0 0, .slice none 0 0, .slice none 0 0, uS 3 1 2]⟩, .agg ⟨[uI 0, uI 0, uI 0]⟩, .slice none 0 0, .agg ⟨[uI 2, uT [], uI 0]⟩, uI 100], [o2, o3, o4, o5], .tuple ⟨[.slice none 0 0, uI 0, uI 6]⟩, []⟩
noncomputable def call219 : Call' := cK [44, 80, 81, 6, 28] [(43, entC [e4]), (45, entC [e67, e101, e134, e156, e179, e198])]
theorem cs219 : CallSound Tryz.prog call219 := cS (tab_sound (tab_cons (cE1 Tryz.func43 ok4) (tab_cons (con_ents Tryz.func45 rfl (ents_cons ok67 (ents_cons ok101 (ents_cons ok134 (ents_cons ok156 (ents_cons ok179 (ents_cons ok198 ents_nil))))))) tab_end)))
theorem ok219 : EntOk Tryz.prog 30 e219 := rE cs219
def e220 : Ent := ⟨[.agg ⟨[uS 0 9 12, uS 1 1 2, uS 2 1 2, .slice none 0 0, .slice none 0 0, .slice none 0 0, .slice none 0 0, uS 3 1 2]⟩, .agg ⟨[uI 0, uI 0, uI 0]⟩, .slice none 0 0, .agg ⟨[uI 1, uT [], uI 0]⟩, uI 3], [o2, o3, o4, o5], .tuple ⟨[.slice none 0 0, uI 0, uI 4]⟩, []⟩
noncomputable def call220 : Call' := cK [44, 80, 81, 6, 28] [(43, entC [e4]), (45, entC [e67, e101, e134, e156])]
theorem cs220 : CallSound Tryz.prog call220 := cS (tab_sound (tab_cons (cE1 Tryz.func43 ok4) (tab_cons (con_ents Tryz.func45 rfl (ents_cons ok67 (ents_cons ok101 (ents_cons ok134 (ents_cons ok156 ents_nil))))) tab_end)))
theorem ok220 : EntOk Tryz.prog 30 e220 := rE cs220
def e214 : Ent := ⟨[.agg ⟨[uS 0 9 12, uS 1 1 2, uS 2 1 2, .slice none 0 0, .slice none 0 0, .slice none 0 0, .slice none 0 0, uS 3 1 2, uI 0, uI 0, uI 0, .slice none 0 0, uI 1, uT [], uI 0]⟩, uS 4 1 2], [o2, o3, o4, o5, o59], .bool false, []⟩
noncomputable def call214 : Call' := cK [6] [(45, entC [e101])]
theorem cs214 : CallSound Tryz.prog call214 := cS (tab_sound (tab_cons (cE1 Tryz.func45 ok101) tab_end))
theorem ok214 : EntOk Tryz.prog 46 e214 := rE cs214
def e215 : Ent := ⟨[.agg ⟨[uS 0 9 12, uS 1 1 2, uS 2 1 2, .slice none 0 0, .slice none 0 0, .slice none 0 0, .slice none 0 0, uS 3 1 2, uI 0, uI 0, uI 0, .slice none 0 0, uI 1, uT [], uI 0]⟩, uS 4 1 2], [o2, o3, o4, o5, o91], .bool false, []⟩
noncomputable def call215 : Call' := cK [6] [(45, entC [e134])]
theorem cs215 : CallSound Tryz.prog call215 := cS (tab_sound (tab_cons (cE1 Tryz.func45 ok134) tab_end))
theorem ok215 : EntOk Tryz.prog 46 e215 := rE cs215
def e216 : Ent := ⟨[.agg ⟨[uS 0 9 12, uS 1 1 2, uS 2 1 2, .slice none 0 0, .slice none 0 0, .slice none 0 0, .slice none 0 0, uS 3 1 2, uI 0, uI 0, uI 0, .slice none 0 0, uI 1, uT [], uI 0]⟩, uS 4 2 3], [o2, o3, o4, o5, o95], .bool false, []⟩
noncomputable def call216 : Call' := cK [6] [(45, entC [e156])]
theorem cs216 : CallSound Tryz.prog call216 := cS (tab_sound (tab_cons (cE1 Tryz.func45 ok156) tab_end))
theorem ok216 : EntOk Tryz.prog 46 e216 := rE cs216
def e217 : Ent := ⟨[.agg ⟨[uS 0 9 12, uS 1 1 2, uS 2 1 2, .slice none 0 0, .slice none 0 0, .slice none 0 0, .slice none 0 0, uS 3 1 2, uI 0, uI 0, uI 0, .slice none 0 0, uI 1, uT [], uI 0]⟩, uS 4 2 3], [o2, o3, o4, o5, o98], .bool false, []⟩
noncomputable def call217 : Call' := cK [6] [(45, entC [e179])]
theorem cs217 : CallSound Tryz.prog call217 := cS (tab_sound (tab_cons (cE1 Tryz.func45 ok179) tab_end))
theorem ok217 : EntOk Tryz.prog 46 e217 := rE cs217
def e221 : Ent := ⟨[.agg ⟨[uS 0 9 12, uS 1 1 2, uS 2 1 2, .slice none 0 0, .slice none 0 0, .slice none 0 0, .slice none 0 0, uS 3 1 2, uI 0, uI 0, uI 0, .slice none 0 0, uI 1, uT [], uI 0]⟩, uS 4 2 2], [o2, o3, o4, o5, o105], .bool true, []⟩
noncomputable def call221 : Call' := cK [6] [(45, entC [e202])]
theorem cs221 : CallSound Tryz.prog call221 := cS (tab_sound (tab_cons (cE1 Tryz.func45 ok202) tab_end))
theorem ok221 : EntOk Tryz.prog 46 e221 := rE cs221
def e227 : Ent := ⟨[.agg ⟨[uS 0 9 12, uS 1 1 2, uS 2 1 2, .slice none 0 0, .slice none 0 0, .slice none 0 0, .slice none 0 0, uS 3 1 2, uI 0, uI 0, uI 0, .slice none 0 0, uI 1, uT [], uI 0]⟩, uS 4 2 2], [o2, o3, o4, o5, o98], .bool false, []⟩
noncomputable def call227 : Call' := cK [6] [(45, entC [e226])]
theorem cs227 : CallSound Tryz.prog call227 := cS (tab_sound (tab_cons (cE1 Tryz.func45 ok226) tab_end))
theorem ok227 : EntOk Tryz.prog 46 e227 := rE cs227
end Go.Proofs.YtmladpbadglecaaGreatDoor
