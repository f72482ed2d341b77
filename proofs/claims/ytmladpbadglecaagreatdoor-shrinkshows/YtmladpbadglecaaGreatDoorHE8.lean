/-
  Steps of the proof.
-/
import Derived.Test.YtmladpbadglecaaGreatDoorHE0
import Derived.Test.YtmladpbadglecaaGreatDoorHE2
set_option linter.unusedSimpArgs false
set_option linter.unusedVariables false
namespace Go.Proofs.YtmladpbadglecaaGreatDoor
open Go Go.AM
set_option maxRecDepth 100000
set_option maxHeartbeats 0
def e109 : Ent := ⟨[.agg ⟨[uS 0 9 12, uS 1 1 2, uS 2 1 2, .slice none 0 0, .slice none 0 0, .slice none 0 0, .slice none 0 0, uS 3 1 2]⟩, .agg ⟨[uI 0, uI 0, uI 0]⟩, .agg ⟨[uS 7 1 5, .slice none 0 0, uS 8 0 0, .slice none 0 0, .slice none 0 0, uI 2, uI 62, uI 2, uI 0, uI 0, uI (-1), uI (-1), uI 0, uT []]⟩], [o2, o3, o4, o5, o88, o20, o21, o22, o23], .tuple ⟨[.agg ⟨[uI 0, uI 0, uI 8, uS 9 1 1]⟩, uI 0]⟩, [o31]⟩
noncomputable def call109 : Call' := cK [220, 72, 76, 112, 168, 28, 169, 170, 221, 118, 116, 173, 278, 311, 331, 349] [(181, entC [e108])]
theorem cs109 : CallSound Tryz.prog call109 := cS (tab_sound (tab_cons (cE1 Tryz.func181 ok108) tab_end))
theorem ok109 : EntOk Tryz.prog 179 e109 := rE cs109
def e138 : Ent := ⟨[.agg ⟨[uS 0 9 12, uS 1 1 2, uS 2 1 2, .slice none 0 0, .slice none 0 0, .slice none 0 0, .slice none 0 0, uS 3 1 2]⟩, .agg ⟨[uI 0, uI 0, uI 0]⟩, .agg ⟨[uS 7 1 5, .slice none 0 0, uS 8 0 0, .slice none 0 0, .slice none 0 0, uI 2, uI 62, uI 2, uI 0, uI 0, uI (-1), uI (-1), uI 0, uT []]⟩], [o2, o3, o4, o5, o95, o20, o21, o22, o23], .tuple ⟨[.agg ⟨[uI 0, uI 0, uI 8, uS 9 1 1]⟩, uI 0]⟩, [o31]⟩
noncomputable def call138 : Call' := cK [220, 72, 76, 112, 168, 28, 169, 170, 221, 118, 116, 173, 278, 311, 331, 349] [(181, entC [e137])]
theorem cs138 : CallSound Tryz.prog call138 := cS (tab_sound (tab_cons (cE1 Tryz.func181 ok137) tab_end))
theorem ok138 : EntOk Tryz.prog 179 e138 := rE cs138
def e160 : Ent := ⟨[.agg ⟨[uS 0 9 12, uS 1 1 2, uS 2 1 2, .slice none 0 0, .slice none 0 0, .slice none 0 0, .slice none 0 0, uS 3 1 2]⟩, .agg ⟨[uI 0, uI 0, uI 0]⟩, .agg ⟨[uS 7 1 5, .slice none 0 0, uS 8 0 0, .slice none 0 0, .slice none 0 0, uI 2, uI 62, uI 2, uI 0, uI 0, uI (-1), uI (-1), uI 0, uT []]⟩], [o2, o3, o4, o5, o98, o20, o21, o22, o23], .tuple ⟨[.agg ⟨[uI 0, uI 0, uI 8, uS 9 1 1]⟩, uI 0]⟩, [o31]⟩
noncomputable def call160 : Call' := cK [220, 72, 76, 112, 168, 28, 169, 170, 221, 118, 116, 173, 278, 311, 331, 349] [(181, entC [e159])]
theorem cs160 : CallSound Tryz.prog call160 := cS (tab_sound (tab_cons (cE1 Tryz.func181 ok159) tab_end))
theorem ok160 : EntOk Tryz.prog 179 e160 := rE cs160
def e8 : Ent := ⟨[.agg ⟨[uS 0 9 12, uS 1 1 2, uS 2 1 2, .slice none 0 0, .slice none 0 0, .slice none 0 0, .slice none 0 0, uS 3 1 2]⟩, .agg ⟨[uI 0, uI 0, uI 0]⟩, .agg ⟨[uS 6 1 1, .slice none 0 0, uS 7 0 0, .slice none 0 0, .slice none 0 0, uI 0, uI 64, uI 0, uI 0, uI 0, uI (-1), uI (-1), uI 0, uT []]⟩, uI 0], [o2, o3, o4, o5, o6, o7, o8, o9], .tuple ⟨[.agg ⟨[uS 8 1 5, .slice none 0 0, uS 11 0 0, .slice none 0 0, .slice none 0 0, uI 1, uI 63, uI 1, uI 0, uI 0, uI (-1), uI (-1), uI 0, uT []]⟩, uS 12 1 4, uI 0]⟩, [o15, o16, o17, .row [] 11 BIG false 0, o18]⟩
noncomputable def call8 : Call' := cK [220, 72, 76, 112, 168, 28, 169, 170, 221, 118, 116, 173, 278, 311, 331, 349, 117, 222, 78, 113, 171, 79] [(181, entC [e5]), (223, entC [e7])]
theorem cs8 : CallSound Tryz.prog call8 := cS (tab_sound (tab_cons (cE1 Tryz.func181 ok5) (tab_cons (cE1 Tryz.func223 ok7) tab_end)))
theorem ok8 : EntOk Tryz.prog 180 e8 := rE cs8
def e12 : Ent := ⟨[.agg ⟨[uS 0 9 12, uS 1 1 2, uS 2 1 2, .slice none 0 0, .slice none 0 0, .slice none 0 0, .slice none 0 0, uS 3 1 2]⟩, .agg ⟨[uI 0, uI 0, uI 0]⟩, .agg ⟨[uS 6 1 5, .slice none 0 0, uS 7 0 0, .slice none 0 0, .slice none 0 0, uI 1, uI 63, uI 1, uI 0, uI 0, uI (-1), uI (-1), uI 0, uT []]⟩, uI 0], [o2, o3, o4, o5, o6, o10, o11, o9], .tuple ⟨[.agg ⟨[uS 8 1 5, .slice none 0 0, uS 12 0 0, .slice none 0 0, .slice none 0 0, uI 2, uI 62, uI 2, uI 0, uI 0, uI (-1), uI (-1), uI 0, uT []]⟩, uS 13 1 4, uI 0]⟩, [o26, o27, o17, o28, o29, o30]⟩
noncomputable def call12 : Call' := cK [220, 72, 76, 112, 168, 28, 169, 170, 221, 118, 116, 173, 278, 311, 331, 349, 117, 222, 78, 113, 171, 115, 174, 176, 215, 216, 217, 175, 79] [(181, entC [e9]), (223, entC [e11])]
theorem cs12 : CallSound Tryz.prog call12 := cS (tab_sound (tab_cons (cE1 Tryz.func181 ok9) (tab_cons (cE1 Tryz.func223 ok11) tab_end)))
theorem ok12 : EntOk Tryz.prog 180 e12 := rE cs12
def e16 : Ent := ⟨[.agg ⟨[uS 0 9 12, uS 1 1 2, uS 2 1 2, .slice none 0 0, .slice none 0 0, .slice none 0 0, .slice none 0 0, uS 3 1 2]⟩, .agg ⟨[uI 0, uI 0, uI 0]⟩, .agg ⟨[uS 7 1 5, .slice none 0 0, uS 8 0 0, .slice none 0 0, .slice none 0 0, uI 2, uI 62, uI 2, uI 0, uI 0, uI (-1), uI (-1), uI 0, uT []]⟩, uI 0], [o2, o3, o4, o5, o6, o20, o21, o22, o23], .tuple ⟨[.agg ⟨[uS 9 1 5, .slice none 0 0, uS 10 0 0, .slice none 0 0, .slice none 0 0, uI 3, uI 61, uI 3, uI 0, uI 0, uI (-1), uI 0, uI 0, uT []]⟩, uS 11 2 5, uI 0]⟩, [o33, o34, o35]⟩
noncomputable def call16 : Call' := cK [220, 72, 76, 112, 168, 28, 169, 170, 221, 118, 116, 173, 278, 311, 331, 349, 117, 222, 79] [(181, entC [e13]), (223, entC [e15])]
theorem cs16 : CallSound Tryz.prog call16 := cS (tab_sound (tab_cons (cE1 Tryz.func181 ok13) (tab_cons (cE1 Tryz.func223 ok15) tab_end)))
theorem ok16 : EntOk Tryz.prog 180 e16 := rE cs16
def e69 : Ent := ⟨[.agg ⟨[uS 0 9 12, uS 1 1 2, uS 2 1 2, .slice none 0 0, .slice none 0 0, .slice none 0 0, .slice none 0 0, uS 3 1 2]⟩, .agg ⟨[uI 0, uI 0, uI 0]⟩, .agg ⟨[uS 6 1 1, .slice none 0 0, uS 7 0 0, .slice none 0 0, .slice none 0 0, uI 0, uI 64, uI 0, uI 0, uI 0, uI (-1), uI (-1), uI 0, uT []]⟩, uI 1], [o2, o3, o4, o5, o6, o7, o8, o9], .tuple ⟨[.agg ⟨[uS 8 1 5, .slice none 0 0, uS 11 0 0, .slice none 0 0, .slice none 0 0, uI 1, uI 63, uI 1, uI 0, uI 0, uI (-1), uI (-1), uI 0, uT []]⟩, uS 12 1 4, uI 0]⟩, [o15, o16, o57, .row [] 11 BIG false 0, o18]⟩
noncomputable def call69 : Call' := cK [220, 72, 76, 112, 168, 28, 169, 170, 221, 118, 116, 173, 278, 311, 331, 349, 117, 222, 78, 113, 171, 79] [(181, entC [e5]), (223, entC [e68])]
theorem cs69 : CallSound Tryz.prog call69 := cS (tab_sound (tab_cons (cE1 Tryz.func181 ok5) (tab_cons (cE1 Tryz.func223 ok68) tab_end)))
theorem ok69 : EntOk Tryz.prog 180 e69 := rE cs69
def e73 : Ent := ⟨[.agg ⟨[uS 0 9 12, uS 1 1 2, uS 2 1 2, .slice none 0 0, .slice none 0 0, .slice none 0 0, .slice none 0 0, uS 3 1 2]⟩, .agg ⟨[uI 0, uI 0, uI 0]⟩, .agg ⟨[uS 6 1 5, .slice none 0 0, uS 7 0 0, .slice none 0 0, .slice none 0 0, uI 1, uI 63, uI 1, uI 0, uI 0, uI (-1), uI (-1), uI 0, uT []]⟩, uI 0], [o2, o3, o4, o5, o56, o10, o11, o9], .tuple ⟨[.agg ⟨[uS 8 1 5, .slice none 0 0, uS 12 0 0, .slice none 0 0, .slice none 0 0, uI 2, uI 62, uI 2, uI 0, uI 0, uI (-1), uI (-1), uI 0, uT []]⟩, uS 13 1 4, uI 0]⟩, [o26, o27, o57, o28, o29, o30]⟩
noncomputable def call73 : Call' := cK [220, 72, 76, 112, 168, 28, 169, 170, 221, 118, 116, 173, 278, 311, 331, 349, 117, 222, 78, 113, 171, 115, 174, 176, 215, 216, 217, 175, 79] [(181, entC [e70]), (223, entC [e72])]
theorem cs73 : CallSound Tryz.prog call73 := cS (tab_sound (tab_cons (cE1 Tryz.func181 ok70) (tab_cons (cE1 Tryz.func223 ok72) tab_end)))
theorem ok73 : EntOk Tryz.prog 180 e73 := rE cs73
def e76 : Ent := ⟨[.agg ⟨[uS 0 9 12, uS 1 1 2, uS 2 1 2, .slice none 0 0, .slice none 0 0, .slice none 0 0, .slice none 0 0, uS 3 1 2]⟩, .agg ⟨[uI 0, uI 0, uI 0]⟩, .agg ⟨[uS 7 1 5, .slice none 0 0, uS 8 0 0, .slice none 0 0, .slice none 0 0, uI 2, uI 62, uI 2, uI 0, uI 0, uI (-1), uI (-1), uI 0, uT []]⟩, uI 0], [o2, o3, o4, o5, o56, o20, o21, o22, o23], .tuple ⟨[.agg ⟨[uS 9 1 5, .slice none 0 0, uS 10 0 0, .slice none 0 0, .slice none 0 0, uI 3, uI 61, uI 3, uI 0, uI 0, uI (-1), uI 0, uI 0, uT []]⟩, uS 11 2 5, uI 0]⟩, [o33, o34, o35]⟩
noncomputable def call76 : Call' := cK [220, 72, 76, 112, 168, 28, 169, 170, 221, 118, 116, 173, 278, 311, 331, 349, 117, 222, 79] [(223, entC [e15]), (181, entC [e74])]
theorem cs76 : CallSound Tryz.prog call76 := cS (tab_sound (tab_cons (cE1 Tryz.func223 ok15) (tab_cons (cE1 Tryz.func181 ok74) tab_end)))
theorem ok76 : EntOk Tryz.prog 180 e76 := rE cs76
def e103 : Ent := ⟨[.agg ⟨[uS 0 9 12, uS 1 1 2, uS 2 1 2, .slice none 0 0, .slice none 0 0, .slice none 0 0, .slice none 0 0, uS 3 1 2]⟩, .agg ⟨[uI 0, uI 0, uI 0]⟩, .agg ⟨[uS 6 1 1, .slice none 0 0, uS 7 0 0, .slice none 0 0, .slice none 0 0, uI 0, uI 64, uI 0, uI 0, uI 0, uI (-1), uI (-1), uI 0, uT []]⟩, uI 2], [o2, o3, o4, o5, o6, o7, o8, o9], .tuple ⟨[.agg ⟨[uS 8 1 5, .slice none 0 0, uS 11 0 0, .slice none 0 0, .slice none 0 0, uI 1, uI 63, uI 1, uI 0, uI 0, uI (-1), uI (-1), uI 0, uT []]⟩, uS 12 1 4, uI 0]⟩, [o15, o16, o89, .row [] 11 BIG false 0, o18]⟩
noncomputable def call103 : Call' := cK [220, 72, 76, 112, 168, 28, 169, 170, 221, 118, 116, 173, 278, 311, 331, 349, 117, 222, 78, 113, 171, 79] [(181, entC [e5]), (223, entC [e102])]
theorem cs103 : CallSound Tryz.prog call103 := cS (tab_sound (tab_cons (cE1 Tryz.func181 ok5) (tab_cons (cE1 Tryz.func223 ok102) tab_end)))
theorem ok103 : EntOk Tryz.prog 180 e103 := rE cs103
def e107 : Ent := ⟨[.agg ⟨[uS 0 9 12, uS 1 1 2, uS 2 1 2, .slice none 0 0, .slice none 0 0, .slice none 0 0, .slice none 0 0, uS 3 1 2]⟩, .agg ⟨[uI 0, uI 0, uI 0]⟩, .agg ⟨[uS 6 1 5, .slice none 0 0, uS 7 0 0, .slice none 0 0, .slice none 0 0, uI 1, uI 63, uI 1, uI 0, uI 0, uI (-1), uI (-1), uI 0, uT []]⟩, uI 0], [o2, o3, o4, o5, o88, o10, o11, o9], .tuple ⟨[.agg ⟨[uS 8 1 5, .slice none 0 0, uS 12 0 0, .slice none 0 0, .slice none 0 0, uI 2, uI 62, uI 2, uI 0, uI 0, uI (-1), uI (-1), uI 0, uT []]⟩, uS 13 1 4, uI 0]⟩, [o26, o27, o89, o28, o29, o30]⟩
noncomputable def call107 : Call' := cK [220, 72, 76, 112, 168, 28, 169, 170, 221, 118, 116, 173, 278, 311, 331, 349, 117, 222, 78, 113, 171, 115, 174, 176, 215, 216, 217, 175, 79] [(181, entC [e104]), (223, entC [e106])]
theorem cs107 : CallSound Tryz.prog call107 := cS (tab_sound (tab_cons (cE1 Tryz.func181 ok104) (tab_cons (cE1 Tryz.func223 ok106) tab_end)))
theorem ok107 : EntOk Tryz.prog 180 e107 := rE cs107
def e110 : Ent := ⟨[.agg ⟨[uS 0 9 12, uS 1 1 2, uS 2 1 2, .slice none 0 0, .slice none 0 0, .slice none 0 0, .slice none 0 0, uS 3 1 2]⟩, .agg ⟨[uI 0, uI 0, uI 0]⟩, .agg ⟨[uS 7 1 5, .slice none 0 0, uS 8 0 0, .slice none 0 0, .slice none 0 0, uI 2, uI 62, uI 2, uI 0, uI 0, uI (-1), uI (-1), uI 0, uT []]⟩, uI 0], [o2, o3, o4, o5, o88, o20, o21, o22, o23], .tuple ⟨[.agg ⟨[uS 9 1 5, .slice none 0 0, uS 10 0 0, .slice none 0 0, .slice none 0 0, uI 3, uI 61, uI 3, uI 0, uI 0, uI (-1), uI 0, uI 0, uT []]⟩, uS 11 2 5, uI 0]⟩, [o33, o34, o35]⟩
noncomputable def call110 : Call' := cK [220, 72, 76, 112, 168, 28, 169, 170, 221, 118, 116, 173, 278, 311, 331, 349, 117, 222, 79] [(223, entC [e15]), (181, entC [e108])]
theorem cs110 : CallSound Tryz.prog call110 := cS (tab_sound (tab_cons (cE1 Tryz.func223 ok15) (tab_cons (cE1 Tryz.func181 ok108) tab_end)))
theorem ok110 : EntOk Tryz.prog 180 e110 := rE cs110
end Go.Proofs.YtmladpbadglecaaGreatDoor
namespace Go.Proofs.YtmladpbadglecaaGreatDoor
open Go Go.AM
set_option maxRecDepth 100000
set_option maxHeartbeats 0
def e136 : Ent := ⟨[.agg ⟨[uS 0 9 12, uS 1 1 2, uS 2 1 2, .slice none 0 0, .slice none 0 0, .slice none 0 0, .slice none 0 0, uS 3 1 2]⟩, .agg ⟨[uI 0, uI 0, uI 0]⟩, .agg ⟨[uS 6 1 5, .slice none 0 0, uS 7 0 0, .slice none 0 0, .slice none 0 0, uI 1, uI 63, uI 1, uI 0, uI 0, uI (-1), uI (-1), uI 0, uT []]⟩, uI 1], [o2, o3, o4, o5, o6, o10, o11, o9], .tuple ⟨[.agg ⟨[uS 8 1 5, .slice none 0 0, uS 12 0 0, .slice none 0 0, .slice none 0 0, uI 2, uI 62, uI 2, uI 0, uI 0, uI (-1), uI (-1), uI 0, uT []]⟩, uS 13 1 4, uI 0]⟩, [o26, o27, .row [uI 0, uI 1] 10 BIG false 2, o28, o29, o30]⟩
noncomputable def call136 : Call' := cK [220, 72, 76, 112, 168, 28, 169, 170, 221, 118, 116, 173, 278, 311, 331, 349, 117, 222, 78, 113, 171, 115, 174, 176, 215, 216, 217, 175, 79] [(181, entC [e9]), (223, entC [e135])]
theorem cs136 : CallSound Tryz.prog call136 := cS (tab_sound (tab_cons (cE1 Tryz.func181 ok9) (tab_cons (cE1 Tryz.func223 ok135) tab_end)))
theorem ok136 : EntOk Tryz.prog 180 e136 := rE cs136
def e139 : Ent := ⟨[.agg ⟨[uS 0 9 12, uS 1 1 2, uS 2 1 2, .slice none 0 0, .slice none 0 0, .slice none 0 0, .slice none 0 0, uS 3 1 2]⟩, .agg ⟨[uI 0, uI 0, uI 0]⟩, .agg ⟨[uS 7 1 5, .slice none 0 0, uS 8 0 0, .slice none 0 0, .slice none 0 0, uI 2, uI 62, uI 2, uI 0, uI 0, uI (-1), uI (-1), uI 0, uT []]⟩, uI 0], [o2, o3, o4, o5, o95, o20, o21, o22, o23], .tuple ⟨[.agg ⟨[uS 9 1 5, .slice none 0 0, uS 10 0 0, .slice none 0 0, .slice none 0 0, uI 3, uI 61, uI 3, uI 0, uI 0, uI (-1), uI 0, uI 0, uT []]⟩, uS 11 2 5, uI 0]⟩, [o33, o34, o35]⟩
noncomputable def call139 : Call' := cK [220, 72, 76, 112, 168, 28, 169, 170, 221, 118, 116, 173, 278, 311, 331, 349, 117, 222, 79] [(223, entC [e15]), (181, entC [e137])]
theorem cs139 : CallSound Tryz.prog call139 := cS (tab_sound (tab_cons (cE1 Tryz.func223 ok15) (tab_cons (cE1 Tryz.func181 ok137) tab_end)))
theorem ok139 : EntOk Tryz.prog 180 e139 := rE cs139
def e158 : Ent := ⟨[.agg ⟨[uS 0 9 12, uS 1 1 2, uS 2 1 2, .slice none 0 0, .slice none 0 0, .slice none 0 0, .slice none 0 0, uS 3 1 2]⟩, .agg ⟨[uI 0, uI 0, uI 0]⟩, .agg ⟨[uS 6 1 5, .slice none 0 0, uS 7 0 0, .slice none 0 0, .slice none 0 0, uI 1, uI 63, uI 1, uI 0, uI 0, uI (-1), uI (-1), uI 0, uT []]⟩, uI 1], [o2, o3, o4, o5, o56, o10, o11, o9], .tuple ⟨[.agg ⟨[uS 8 1 5, .slice none 0 0, uS 12 0 0, .slice none 0 0, .slice none 0 0, uI 2, uI 62, uI 2, uI 0, uI 0, uI (-1), uI (-1), uI 0, uT []]⟩, uS 13 1 4, uI 0]⟩, [o26, o27, .row [uI 1, uI 1] 10 BIG false 2, o28, o29, o30]⟩
noncomputable def call158 : Call' := cK [220, 72, 76, 112, 168, 28, 169, 170, 221, 118, 116, 173, 278, 311, 331, 349, 117, 222, 78, 113, 171, 115, 174, 176, 215, 216, 217, 175, 79] [(181, entC [e70]), (223, entC [e157])]
theorem cs158 : CallSound Tryz.prog call158 := cS (tab_sound (tab_cons (cE1 Tryz.func181 ok70) (tab_cons (cE1 Tryz.func223 ok157) tab_end)))
theorem ok158 : EntOk Tryz.prog 180 e158 := rE cs158
def e161 : Ent := ⟨[.agg ⟨[uS 0 9 12, uS 1 1 2, uS 2 1 2, .slice none 0 0, .slice none 0 0, .slice none 0 0, .slice none 0 0, uS 3 1 2]⟩, .agg ⟨[uI 0, uI 0, uI 0]⟩, .agg ⟨[uS 7 1 5, .slice none 0 0, uS 8 0 0, .slice none 0 0, .slice none 0 0, uI 2, uI 62, uI 2, uI 0, uI 0, uI (-1), uI (-1), uI 0, uT []]⟩, uI 0], [o2, o3, o4, o5, o98, o20, o21, o22, o23], .tuple ⟨[.agg ⟨[uS 9 1 5, .slice none 0 0, uS 10 0 0, .slice none 0 0, .slice none 0 0, uI 3, uI 61, uI 3, uI 0, uI 0, uI (-1), uI 0, uI 0, uT []]⟩, uS 11 2 5, uI 0]⟩, [o33, o34, o35]⟩
noncomputable def call161 : Call' := cK [220, 72, 76, 112, 168, 28, 169, 170, 221, 118, 116, 173, 278, 311, 331, 349, 117, 222, 79] [(223, entC [e15]), (181, entC [e159])]
theorem cs161 : CallSound Tryz.prog call161 := cS (tab_sound (tab_cons (cE1 Tryz.func223 ok15) (tab_cons (cE1 Tryz.func181 ok159) tab_end)))
theorem ok161 : EntOk Tryz.prog 180 e161 := rE cs161
def e181 : Ent := ⟨[.agg ⟨[uS 0 9 12, uS 1 1 2, uS 2 1 2, .slice none 0 0, .slice none 0 0, .slice none 0 0, .slice none 0 0, uS 3 1 2]⟩, .agg ⟨[uI 0, uI 0, uI 0]⟩, .agg ⟨[uS 6 1 5, .slice none 0 0, uS 7 0 0, .slice none 0 0, .slice none 0 0, uI 1, uI 63, uI 1, uI 0, uI 0, uI (-1), uI (-1), uI 0, uT []]⟩, uI 1], [o2, o3, o4, o5, o88, o10, o11, o9], .tuple ⟨[.agg ⟨[uS 8 1 5, .slice none 0 0, uS 12 0 0, .slice none 0 0, .slice none 0 0, uI 2, uI 62, uI 2, uI 0, uI 0, uI (-1), uI 1, uI 0, uT [116]]⟩, uS 13 1 4, uI 0]⟩, [o26, o27, .row [uI 2, uI 1] 10 BIG false 2, .row [uI 0, uI 2] 11 BIG false 2, o29, o30]⟩
noncomputable def call181 : Call' := cK [220, 72, 76, 112, 168, 28, 169, 170, 221, 118, 116, 173, 278, 311, 331, 349, 117, 222, 78, 113, 171, 115, 174, 176, 215, 216, 217, 175, 79] [(181, entC [e104]), (223, entC [e180])]
theorem cs181 : CallSound Tryz.prog call181 := cS (tab_sound (tab_cons (cE1 Tryz.func181 ok104) (tab_cons (cE1 Tryz.func223 ok180) tab_end)))
theorem ok181 : EntOk Tryz.prog 180 e181 := rE cs181
end Go.Proofs.YtmladpbadglecaaGreatDoor
