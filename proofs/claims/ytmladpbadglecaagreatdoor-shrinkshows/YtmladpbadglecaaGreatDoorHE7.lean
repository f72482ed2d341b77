/-
  Steps of the proof.
-/
import Derived.Test.YtmladpbadglecaaGreatDoorHE0
import Derived.Test.YtmladpbadglecaaGreatDoorHE2
import Derived.Test.YtmladpbadglecaaGreatDoorHE3
import Derived.Test.YtmladpbadglecaaGreatDoorHE5
set_option linter.unusedSimpArgs false
set_option linter.unusedVariables false
namespace Go.Proofs.YtmladpbadglecaaGreatDoor
open Go Go.AM
set_option maxRecDepth 100000
set_option maxHeartbeats 0
def e213 : Ent := ⟨[uS 0 2 3], [o107], uS 1 4 8589934597, [o123, .row [uI 1] 2 BIG false 1, o1, o124, o125]⟩
noncomputable def call213 : Call' := cK [16, 33, 17, 35, 57, 34, 48, 18, 19, 20] [(13, entC [e77, e111, e140, e162, e182, e203]), (12, entC [e204, e205, e206, e207, e208, e209, e210, e211, e212])]
theorem cs213 : CallSound Tryz.prog call213 := cS (tab_sound (tab_cons (con_ents Tryz.func13 rfl (ents_cons ok77 (ents_cons ok111 (ents_cons ok140 (ents_cons ok162 (ents_cons ok182 (ents_cons ok203 ents_nil))))))) (tab_cons (con_ents Tryz.func12 rfl (ents_cons ok204 (ents_cons ok205 (ents_cons ok206 (ents_cons ok207 (ents_cons ok208 (ents_cons ok209 (ents_cons ok210 (ents_cons ok211 (ents_cons ok212 ents_nil)))))))))) tab_end)))
theorem ok213 : EntOk Tryz.prog 9 e213 := rE cs213
def e222 : Ent := ⟨[uS 0 2 2], [o107], uS 1 4 8589934597, [o123, .row [uI 1] 2 BIG false 1, o1, o124, o125]⟩
noncomputable def call222 : Call' := cK [16, 33, 17, 35, 57, 34, 48, 18, 19, 20] [(13, entC [e77, e111, e140, e162, e200, e203]), (12, entC [e204, e205, e206, e207, e208, e209, e210, e211, e212])]
theorem cs222 : CallSound Tryz.prog call222 := cS (tab_sound (tab_cons (con_ents Tryz.func13 rfl (ents_cons ok77 (ents_cons ok111 (ents_cons ok140 (ents_cons ok162 (ents_cons ok200 (ents_cons ok203 ents_nil))))))) (tab_cons (con_ents Tryz.func12 rfl (ents_cons ok204 (ents_cons ok205 (ents_cons ok206 (ents_cons ok207 (ents_cons ok208 (ents_cons ok209 (ents_cons ok210 (ents_cons ok211 (ents_cons ok212 ents_nil)))))))))) tab_end)))
theorem ok222 : EntOk Tryz.prog 9 e222 := rE cs222
def e2 : Ent := ⟨[uS 0 1 1, uT [116]], [o0], .tuple ⟨[.agg ⟨[uS 1 9 12, uS 2 1 2, uS 3 1 2, .slice none 0 0, .slice none 0 0, .slice none 0 0, .slice none 0 0, uS 4 1 2]⟩, uI 0]⟩, [.row [uI 23, uI 3, uI 0, uI 23, uI 2, uI 1, uI 1, uI 0, uI 0, uI 1, uI 1, uI 0, uI 6, uI 0, uI 0, uI 0, uI 2, uI 0, uI 7, uI 0, uI 0, uI 14, uI 0, uI 0, uI 28, uI 0, uI 0] 1 BIG false 27, .row [uI 0] 2 BIG false 1, o1, .row [uT [116]] 4 BIG false 1]⟩
noncomputable def call2 : Call' := cK [39, 63, 35, 57, 101, 153, 66, 103, 161, 40, 68, 104, 41, 69, 108, 42, 106, 163] [(62, entC [e0]), (38, entC [e1])]
theorem cs2 : CallSound Tryz.prog call2 := cS (tab_sound (tab_cons (cE1 Tryz.func62 ok0) (tab_cons (cE1 Tryz.func38 ok1) tab_end)))
theorem ok2 : EntOk Tryz.prog 29 e2 := rE cs2
def e29 : Ent := ⟨[.agg ⟨[uS 2 1 1, .slice none 0 0, uS 3 0 0, .slice none 0 0, .slice none 0 0, uI 0, uI 64, uI 0, uI 0, uI 0, uI (-1), uI (-1), uI 0, uT []]⟩], [o38, o39, o40, o41], .agg ⟨[uB 175, uB 131, uB 247, uB 56, uB 72, uB 255, uB 36, uB 229, uB 182, uB 22, uB 91, uB 31, uB 1, uB 187, uB 13, uB 164]⟩, []⟩
noncomputable def call29 : Call' := cK [185, 232, 233, 230, 217, 234] [(238, entC [e20, e21, e22, e23, e24, e25]), (184, entC [e28])]
theorem cs29 : CallSound Tryz.prog call29 := cS (tab_sound (tab_cons (con_ents Tryz.func238 rfl (ents_cons ok20 (ents_cons ok21 (ents_cons ok22 (ents_cons ok23 (ents_cons ok24 (ents_cons ok25 ents_nil))))))) (tab_cons (cE1 Tryz.func184 ok28) tab_end)))
theorem ok29 : EntOk Tryz.prog 124 e29 := rE cs29
def e34 : Ent := ⟨[.agg ⟨[uS 2 1 5, .slice none 0 0, uS 3 0 0, .slice none 0 0, .slice none 0 0, uI 1, uI 63, uI 1, uI 0, uI 0, uI (-1), uI (-1), uI 0, uT []]⟩], [o38, o42, o43, o41], .agg ⟨[uB 186, uB 39, uB 209, uB 128, uB 38, uB 54, uB 97, uB 122, uB 120, uB 25, uB 218, uB 169, uB 193, uB 143, uB 48, uB 198]⟩, []⟩
noncomputable def call34 : Call' := cK [185, 232, 233, 230, 217, 234] [(238, entC [e20, e21, e22, e24, e25, e30]), (184, entC [e33])]
theorem cs34 : CallSound Tryz.prog call34 := cS (tab_sound (tab_cons (con_ents Tryz.func238 rfl (ents_cons ok20 (ents_cons ok21 (ents_cons ok22 (ents_cons ok24 (ents_cons ok25 (ents_cons ok30 ents_nil))))))) (tab_cons (cE1 Tryz.func184 ok33) tab_end)))
theorem ok34 : EntOk Tryz.prog 124 e34 := rE cs34
def e40 : Ent := ⟨[.agg ⟨[uS 3 1 5, .slice none 0 0, uS 4 0 0, .slice none 0 0, .slice none 0 0, uI 2, uI 62, uI 2, uI 0, uI 0, uI (-1), uI (-1), uI 0, uT []]⟩], [o38, o44, o45, o46, o47], .agg ⟨[uB 42, uB 190, uB 75, uB 143, uB 252, uB 136, uB 28, uB 53, uB 103, uB 65, uB 231, uB 157, uB 170, uB 225, uB 246, uB 23]⟩, []⟩
noncomputable def call40 : Call' := cK [185, 232, 233, 230, 217, 234] [(238, entC [e20, e21, e22, e24, e25, e35, e36, e37]), (184, entC [e39])]
theorem cs40 : CallSound Tryz.prog call40 := cS (tab_sound (tab_cons (con_ents Tryz.func238 rfl (ents_cons ok20 (ents_cons ok21 (ents_cons ok22 (ents_cons ok24 (ents_cons ok25 (ents_cons ok35 (ents_cons ok36 (ents_cons ok37 ents_nil))))))))) (tab_cons (cE1 Tryz.func184 ok39) tab_end)))
theorem ok40 : EntOk Tryz.prog 124 e40 := rE cs40
def e45 : Ent := ⟨[.agg ⟨[uS 0 1 5, .slice none 0 0, uS 1 0 0, .slice none 0 0, .slice none 0 0, uI 3, uI 61, uI 3, uI 0, uI 0, uI (-1), uI 0, uI 0, uT []]⟩], [.row [.slice none 0 0, .slice none 0 0, uI 0, .bool true] 0 BIG true 4, .row [] 1 BIG true 0], .agg ⟨[uB 77, uB 171, uB 185, uB 137, uB 22, uB 133, uB 22, uB 149, uB 70, uB 65, uB 255, uB 127, uB 127, uB 147, uB 253, uB 169]⟩, []⟩
noncomputable def call45 : Call' := cK [185, 232, 233, 230, 217, 234] [(238, entC [e20, e21, e22, e24, e25, e41]), (184, entC [e44])]
theorem cs45 : CallSound Tryz.prog call45 := cS (tab_sound (tab_cons (con_ents Tryz.func238 rfl (ents_cons ok20 (ents_cons ok21 (ents_cons ok22 (ents_cons ok24 (ents_cons ok25 (ents_cons ok41 ents_nil))))))) (tab_cons (cE1 Tryz.func184 ok44) tab_end)))
theorem ok45 : EntOk Tryz.prog 124 e45 := rE cs45
def e82 : Ent := ⟨[.agg ⟨[uS 2 1 5, .slice none 0 0, uS 3 0 0, .slice none 0 0, .slice none 0 0, uI 1, uI 63, uI 1, uI 0, uI 0, uI (-1), uI (-1), uI 0, uT []]⟩], [o81, o42, o43, o41], .agg ⟨[uB 63, uB 21, uB 247, uB 70, uB 155, uB 155, uB 122, uB 22, uB 195, uB 76, uB 35, uB 222, uB 251, uB 33, uB 89, uB 238]⟩, []⟩
noncomputable def call82 : Call' := cK [185, 232, 233, 230, 217, 234] [(238, entC [e20, e21, e22, e24, e25, e30]), (184, entC [e81])]
theorem cs82 : CallSound Tryz.prog call82 := cS (tab_sound (tab_cons (con_ents Tryz.func238 rfl (ents_cons ok20 (ents_cons ok21 (ents_cons ok22 (ents_cons ok24 (ents_cons ok25 (ents_cons ok30 ents_nil))))))) (tab_cons (cE1 Tryz.func184 ok81) tab_end)))
theorem ok82 : EntOk Tryz.prog 124 e82 := rE cs82
def e85 : Ent := ⟨[.agg ⟨[uS 3 1 5, .slice none 0 0, uS 4 0 0, .slice none 0 0, .slice none 0 0, uI 2, uI 62, uI 2, uI 0, uI 0, uI (-1), uI (-1), uI 0, uT []]⟩], [o81, o44, o45, o46, o47], .agg ⟨[uB 72, uB 225, uB 81, uB 135, uB 22, uB 39, uB 85, uB 155, uB 168, uB 21, uB 125, uB 143, uB 147, uB 243, uB 202, uB 102]⟩, []⟩
noncomputable def call85 : Call' := cK [185, 232, 233, 230, 217, 234] [(238, entC [e20, e21, e22, e24, e25, e35, e36, e37]), (184, entC [e84])]
theorem cs85 : CallSound Tryz.prog call85 := cS (tab_sound (tab_cons (con_ents Tryz.func238 rfl (ents_cons ok20 (ents_cons ok21 (ents_cons ok22 (ents_cons ok24 (ents_cons ok25 (ents_cons ok35 (ents_cons ok36 (ents_cons ok37 ents_nil))))))))) (tab_cons (cE1 Tryz.func184 ok84) tab_end)))
theorem ok85 : EntOk Tryz.prog 124 e85 := rE cs85
def e115 : Ent := ⟨[.agg ⟨[uS 2 1 5, .slice none 0 0, uS 3 0 0, .slice none 0 0, .slice none 0 0, uI 1, uI 63, uI 1, uI 0, uI 0, uI (-1), uI (-1), uI 0, uT []]⟩], [o93, o42, o43, o41], .agg ⟨[uB 215, uB 89, uB 101, uB 112, uB 60, uB 194, uB 117, uB 73, uB 55, uB 60, uB 54, uB 85, uB 0, uB 172, uB 145, uB 2]⟩, []⟩
noncomputable def call115 : Call' := cK [185, 232, 233, 230, 217, 234] [(238, entC [e20, e21, e22, e24, e25, e30, e35]), (184, entC [e114])]
theorem cs115 : CallSound Tryz.prog call115 := cS (tab_sound (tab_cons (con_ents Tryz.func238 rfl (ents_cons ok20 (ents_cons ok21 (ents_cons ok22 (ents_cons ok24 (ents_cons ok25 (ents_cons ok30 (ents_cons ok35 ents_nil)))))))) (tab_cons (cE1 Tryz.func184 ok114) tab_end)))
theorem ok115 : EntOk Tryz.prog 124 e115 := rE cs115
def e118 : Ent := ⟨[.agg ⟨[uS 3 1 5, .slice none 0 0, uS 4 0 0, .slice none 0 0, .slice none 0 0, uI 2, uI 62, uI 2, uI 0, uI 0, uI (-1), uI (-1), uI 0, uT []]⟩], [o93, o44, o45, o46, o47], .agg ⟨[uB 31, uB 227, uB 215, uB 140, uB 3, uB 85, uB 82, uB 247, uB 76, uB 115, uB 156, uB 128, uB 5, uB 115, uB 160, uB 235]⟩, []⟩
noncomputable def call118 : Call' := cK [185, 232, 233, 230, 217, 234] [(238, entC [e20, e21, e22, e24, e25, e35, e36, e37]), (184, entC [e117])]
theorem cs118 : CallSound Tryz.prog call118 := cS (tab_sound (tab_cons (con_ents Tryz.func238 rfl (ents_cons ok20 (ents_cons ok21 (ents_cons ok22 (ents_cons ok24 (ents_cons ok25 (ents_cons ok35 (ents_cons ok36 (ents_cons ok37 ents_nil))))))))) (tab_cons (cE1 Tryz.func184 ok117) tab_end)))
theorem ok118 : EntOk Tryz.prog 124 e118 := rE cs118
def e144 : Ent := ⟨[.agg ⟨[uS 3 1 5, .slice none 0 0, uS 4 0 0, .slice none 0 0, .slice none 0 0, uI 2, uI 62, uI 2, uI 0, uI 0, uI (-1), uI (-1), uI 0, uT []]⟩], [o96, o44, o45, o46, o47], .agg ⟨[uB 46, uB 118, uB 138, uB 119, uB 93, uB 24, uB 33, uB 227, uB 212, uB 41, uB 102, uB 170, uB 128, uB 19, uB 151, uB 244]⟩, []⟩
noncomputable def call144 : Call' := cK [185, 232, 233, 230, 217, 234] [(238, entC [e20, e21, e22, e24, e25, e35, e36, e37]), (184, entC [e143])]
theorem cs144 : CallSound Tryz.prog call144 := cS (tab_sound (tab_cons (con_ents Tryz.func238 rfl (ents_cons ok20 (ents_cons ok21 (ents_cons ok22 (ents_cons ok24 (ents_cons ok25 (ents_cons ok35 (ents_cons ok36 (ents_cons ok37 ents_nil))))))))) (tab_cons (cE1 Tryz.func184 ok143) tab_end)))
theorem ok144 : EntOk Tryz.prog 124 e144 := rE cs144
def e167 : Ent := ⟨[.agg ⟨[uS 3 1 5, .slice none 0 0, uS 4 0 0, .slice none 0 0, .slice none 0 0, uI 2, uI 62, uI 2, uI 0, uI 0, uI (-1), uI (-1), uI 0, uT []]⟩], [o99, o44, o45, o46, o47], .agg ⟨[uB 156, uB 35, uB 95, uB 164, uB 199, uB 184, uB 177, uB 247, uB 15, uB 84, uB 158, uB 185, uB 109, uB 19, uB 171, uB 116]⟩, []⟩
noncomputable def call167 : Call' := cK [185, 232, 233, 230, 217, 234] [(238, entC [e20, e21, e22, e24, e25, e35, e36, e37]), (184, entC [e166])]
theorem cs167 : CallSound Tryz.prog call167 := cS (tab_sound (tab_cons (con_ents Tryz.func238 rfl (ents_cons ok20 (ents_cons ok21 (ents_cons ok22 (ents_cons ok24 (ents_cons ok25 (ents_cons ok35 (ents_cons ok36 (ents_cons ok37 ents_nil))))))))) (tab_cons (cE1 Tryz.func184 ok166) tab_end)))
theorem ok167 : EntOk Tryz.prog 124 e167 := rE cs167
def e188 : Ent := ⟨[.agg ⟨[uS 3 1 5, .slice none 0 0, uS 4 0 0, .slice none 0 0, .slice none 0 0, uI 2, uI 62, uI 2, uI 0, uI 0, uI (-1), uI 1, uI 0, uT [116]]⟩], [o107, o44, .row [uI 0, uI 2] 2 BIG true 2, o46, o47], .agg ⟨[uB 184, uB 151, uB 154, uB 206, uB 144, uB 66, uB 10, uB 81, uB 100, uB 125, uB 61, uB 227, uB 87, uB 154, uB 37, uB 211]⟩, []⟩
noncomputable def call188 : Call' := cK [185, 232, 233, 230, 217, 234] [(238, entC [e20, e21, e22, e24, e25, e35, e36, e37]), (184, entC [e187])]
theorem cs188 : CallSound Tryz.prog call188 := cS (tab_sound (tab_cons (con_ents Tryz.func238 rfl (ents_cons ok20 (ents_cons ok21 (ents_cons ok22 (ents_cons ok24 (ents_cons ok25 (ents_cons ok35 (ents_cons ok36 (ents_cons ok37 ents_nil))))))))) (tab_cons (cE1 Tryz.func184 ok187) tab_end)))
theorem ok188 : EntOk Tryz.prog 124 e188 := rE cs188
def e65 : Ent := ⟨[uS 0 4 6], [o48], .tuple ⟨[.agg ⟨[uB 58, uB 96, uB 155, uB 48, uB 70, uB 84, uB 237, uB 89, uB 134, uB 236, uB 82, uB 1, uB 27, uB 230, uB 176, uB 119]⟩, uI 0]⟩, []⟩
noncomputable def call65 : Call' := cK [189, 239, 241, 240, 242, 188] [(187, entC [e46]), (238, entC [e47]), (184, entC [e50, e52, e54, e56, e58, e60, e62, e64])]
theorem cs65 : CallSound Tryz.prog call65 := cS (tab_sound (tab_cons (cE1 Tryz.func187 ok46) (tab_cons (cE1 Tryz.func238 ok47) (tab_cons (con_ents Tryz.func184 rfl (ents_cons ok50 (ents_cons ok52 (ents_cons ok54 (ents_cons ok56 (ents_cons ok58 (ents_cons ok60 (ents_cons ok62 (ents_cons ok64 ents_nil))))))))) tab_end))))
theorem ok65 : EntOk Tryz.prog 126 e65 := rE cs65
def e99 : Ent := ⟨[uS 0 4 6], [o82], .tuple ⟨[.agg ⟨[uB 72, uB 20, uB 25, uB 10, uB 163, uB 150, uB 148, uB 240, uB 251, uB 178, uB 242, uB 218, uB 99, uB 105, uB 120, uB 91]⟩, uI 0]⟩, []⟩
noncomputable def call99 : Call' := cK [189, 239, 241, 240, 242, 188] [(238, entC [e47]), (184, entC [e50, e58, e88, e90, e92, e94, e96, e98]), (187, entC [e86])]
theorem cs99 : CallSound Tryz.prog call99 := cS (tab_sound (tab_cons (cE1 Tryz.func238 ok47) (tab_cons (con_ents Tryz.func184 rfl (ents_cons ok50 (ents_cons ok58 (ents_cons ok88 (ents_cons ok90 (ents_cons ok92 (ents_cons ok94 (ents_cons ok96 (ents_cons ok98 ents_nil))))))))) (tab_cons (cE1 Tryz.func187 ok86) tab_end))))
theorem ok99 : EntOk Tryz.prog 126 e99 := rE cs99
def e132 : Ent := ⟨[uS 0 4 6], [o94], .tuple ⟨[.agg ⟨[uB 180, uB 63, uB 18, uB 108, uB 214, uB 38, uB 232, uB 198, uB 203, uB 76, uB 70, uB 192, uB 161, uB 60, uB 185, uB 111]⟩, uI 0]⟩, []⟩
noncomputable def call132 : Call' := cK [189, 239, 241, 240, 242, 188] [(238, entC [e47]), (184, entC [e50, e58, e121, e123, e125, e127, e129, e131]), (187, entC [e119])]
theorem cs132 : CallSound Tryz.prog call132 := cS (tab_sound (tab_cons (cE1 Tryz.func238 ok47) (tab_cons (con_ents Tryz.func184 rfl (ents_cons ok50 (ents_cons ok58 (ents_cons ok121 (ents_cons ok123 (ents_cons ok125 (ents_cons ok127 (ents_cons ok129 (ents_cons ok131 ents_nil))))))))) (tab_cons (cE1 Tryz.func187 ok119) tab_end))))
theorem ok132 : EntOk Tryz.prog 126 e132 := rE cs132
def e154 : Ent := ⟨[uS 0 4 6], [o97], .tuple ⟨[.agg ⟨[uB 29, uB 136, uB 95, uB 32, uB 141, uB 88, uB 125, uB 170, uB 188, uB 229, uB 157, uB 130, uB 58, uB 231, uB 36, uB 106]⟩, uI 0]⟩, []⟩
noncomputable def call154 : Call' := cK [189, 239, 241, 240, 242, 188] [(238, entC [e47]), (184, entC [e50, e52, e54, e58, e147, e149, e151, e153]), (187, entC [e145])]
theorem cs154 : CallSound Tryz.prog call154 := cS (tab_sound (tab_cons (cE1 Tryz.func238 ok47) (tab_cons (con_ents Tryz.func184 rfl (ents_cons ok50 (ents_cons ok52 (ents_cons ok54 (ents_cons ok58 (ents_cons ok147 (ents_cons ok149 (ents_cons ok151 (ents_cons ok153 ents_nil))))))))) (tab_cons (cE1 Tryz.func187 ok145) tab_end))))
theorem ok154 : EntOk Tryz.prog 126 e154 := rE cs154
def e177 : Ent := ⟨[uS 0 4 6], [o103], .tuple ⟨[.agg ⟨[uB 214, uB 27, uB 187, uB 92, uB 94, uB 182, uB 167, uB 110, uB 238, uB 81, uB 184, uB 157, uB 112, uB 84, uB 175, uB 248]⟩, uI 0]⟩, []⟩
noncomputable def call177 : Call' := cK [189, 239, 241, 240, 242, 188] [(238, entC [e47]), (184, entC [e50, e58, e88, e90, e170, e172, e174, e176]), (187, entC [e168])]
theorem cs177 : CallSound Tryz.prog call177 := cS (tab_sound (tab_cons (cE1 Tryz.func238 ok47) (tab_cons (con_ents Tryz.func184 rfl (ents_cons ok50 (ents_cons ok58 (ents_cons ok88 (ents_cons ok90 (ents_cons ok170 (ents_cons ok172 (ents_cons ok174 (ents_cons ok176 ents_nil))))))))) (tab_cons (cE1 Tryz.func187 ok168) tab_end))))
theorem ok177 : EntOk Tryz.prog 126 e177 := rE cs177
def e196 : Ent := ⟨[uS 0 3 5], [o118], .tuple ⟨[.agg ⟨[uB 103, uB 150, uB 50, uB 133, uB 138, uB 72, uB 75, uB 72, uB 19, uB 163, uB 86, uB 13, uB 15, uB 248, uB 117, uB 4]⟩, uI 0]⟩, []⟩
noncomputable def call196 : Call' := cK [189, 239, 241, 240, 242, 188] [(238, entC [e25]), (184, entC [e50, e121, e123, e191, e193, e195]), (187, entC [e189])]
theorem cs196 : CallSound Tryz.prog call196 := cS (tab_sound (tab_cons (cE1 Tryz.func238 ok25) (tab_cons (con_ents Tryz.func184 rfl (ents_cons ok50 (ents_cons ok121 (ents_cons ok123 (ents_cons ok191 (ents_cons ok193 (ents_cons ok195 ents_nil))))))) (tab_cons (cE1 Tryz.func187 ok189) tab_end))))
theorem ok196 : EntOk Tryz.prog 126 e196 := rE cs196
def e6 : Ent := ⟨[.agg ⟨[uS 0 9 12, uS 1 1 2, uS 2 1 2, .slice none 0 0, .slice none 0 0, .slice none 0 0, .slice none 0 0, uS 3 1 2]⟩, .agg ⟨[uI 0, uI 0, uI 0]⟩, .agg ⟨[uS 6 1 1, .slice none 0 0, uS 7 0 0, .slice none 0 0, .slice none 0 0, uI 0, uI 64, uI 0, uI 0, uI 0, uI (-1), uI (-1), uI 0, uT []]⟩], [o2, o3, o4, o5, o6, o7, o8, o9], .tuple ⟨[.agg ⟨[uI 1, uI 0, uI 0, uS 8 3 3]⟩, uI 0]⟩, [.row [uI 1, uI 1, uI 1] 8 BIG false 3]⟩
noncomputable def call6 : Call' := cK [220, 72, 76, 112, 168, 28, 169, 170, 221, 118, 116, 173, 278, 311, 331, 349] [(181, entC [e5])]
theorem cs6 : CallSound Tryz.prog call6 := cS (tab_sound (tab_cons (cE1 Tryz.func181 ok5) tab_end))
theorem ok6 : EntOk Tryz.prog 179 e6 := rE cs6
def e10 : Ent := ⟨[.agg ⟨[uS 0 9 12, uS 1 1 2, uS 2 1 2, .slice none 0 0, .slice none 0 0, .slice none 0 0, .slice none 0 0, uS 3 1 2]⟩, .agg ⟨[uI 0, uI 0, uI 0]⟩, .agg ⟨[uS 6 1 5, .slice none 0 0, uS 7 0 0, .slice none 0 0, .slice none 0 0, uI 1, uI 63, uI 1, uI 0, uI 0, uI (-1), uI (-1), uI 0, uT []]⟩], [o2, o3, o4, o5, o6, o10, o11, o9], .tuple ⟨[.agg ⟨[uI 1, uI 0, uI 1, uS 8 2 2]⟩, uI 0]⟩, [o19]⟩
noncomputable def call10 : Call' := cK [220, 72, 76, 112, 168, 28, 169, 170, 221, 118, 116, 173, 278, 311, 331, 349] [(181, entC [e9])]
theorem cs10 : CallSound Tryz.prog call10 := cS (tab_sound (tab_cons (cE1 Tryz.func181 ok9) tab_end))
theorem ok10 : EntOk Tryz.prog 179 e10 := rE cs10
def e14 : Ent := ⟨[.agg ⟨[uS 0 9 12, uS 1 1 2, uS 2 1 2, .slice none 0 0, .slice none 0 0, .slice none 0 0, .slice none 0 0, uS 3 1 2]⟩, .agg ⟨[uI 0, uI 0, uI 0]⟩, .agg ⟨[uS 7 1 5, .slice none 0 0, uS 8 0 0, .slice none 0 0, .slice none 0 0, uI 2, uI 62, uI 2, uI 0, uI 0, uI (-1), uI (-1), uI 0, uT []]⟩], [o2, o3, o4, o5, o6, o20, o21, o22, o23], .tuple ⟨[.agg ⟨[uI 0, uI 0, uI 8, uS 9 1 1]⟩, uI 0]⟩, [o31]⟩
noncomputable def call14 : Call' := cK [220, 72, 76, 112, 168, 28, 169, 170, 221, 118, 116, 173, 278, 311, 331, 349] [(181, entC [e13])]
theorem cs14 : CallSound Tryz.prog call14 := cS (tab_sound (tab_cons (cE1 Tryz.func181 ok13) tab_end))
theorem ok14 : EntOk Tryz.prog 179 e14 := rE cs14
def e71 : Ent := ⟨[.agg ⟨[uS 0 9 12, uS 1 1 2, uS 2 1 2, .slice none 0 0, .slice none 0 0, .slice none 0 0, .slice none 0 0, uS 3 1 2]⟩, .agg ⟨[uI 0, uI 0, uI 0]⟩, .agg ⟨[uS 6 1 5, .slice none 0 0, uS 7 0 0, .slice none 0 0, .slice none 0 0, uI 1, uI 63, uI 1, uI 0, uI 0, uI (-1), uI (-1), uI 0, uT []]⟩], [o2, o3, o4, o5, o56, o10, o11, o9], .tuple ⟨[.agg ⟨[uI 1, uI 0, uI 1, uS 8 2 2]⟩, uI 0]⟩, [o19]⟩
noncomputable def call71 : Call' := cK [220, 72, 76, 112, 168, 28, 169, 170, 221, 118, 116, 173, 278, 311, 331, 349] [(181, entC [e70])]
theorem cs71 : CallSound Tryz.prog call71 := cS (tab_sound (tab_cons (cE1 Tryz.func181 ok70) tab_end))
theorem ok71 : EntOk Tryz.prog 179 e71 := rE cs71
def e75 : Ent := ⟨[.agg ⟨[uS 0 9 12, uS 1 1 2, uS 2 1 2, .slice none 0 0, .slice none 0 0, .slice none 0 0, .slice none 0 0, uS 3 1 2]⟩, .agg ⟨[uI 0, uI 0, uI 0]⟩, .agg ⟨[uS 7 1 5, .slice none 0 0, uS 8 0 0, .slice none 0 0, .slice none 0 0, uI 2, uI 62, uI 2, uI 0, uI 0, uI (-1), uI (-1), uI 0, uT []]⟩], [o2, o3, o4, o5, o56, o20, o21, o22, o23], .tuple ⟨[.agg ⟨[uI 0, uI 0, uI 8, uS 9 1 1]⟩, uI 0]⟩, [o31]⟩
noncomputable def call75 : Call' := cK [220, 72, 76, 112, 168, 28, 169, 170, 221, 118, 116, 173, 278, 311, 331, 349] [(181, entC [e74])]
theorem cs75 : CallSound Tryz.prog call75 := cS (tab_sound (tab_cons (cE1 Tryz.func181 ok74) tab_end))
theorem ok75 : EntOk Tryz.prog 179 e75 := rE cs75
def e105 : Ent := ⟨[.agg ⟨[uS 0 9 12, uS 1 1 2, uS 2 1 2, .slice none 0 0, .slice none 0 0, .slice none 0 0, .slice none 0 0, uS 3 1 2]⟩, .agg ⟨[uI 0, uI 0, uI 0]⟩, .agg ⟨[uS 6 1 5, .slice none 0 0, uS 7 0 0, .slice none 0 0, .slice none 0 0, uI 1, uI 63, uI 1, uI 0, uI 0, uI (-1), uI (-1), uI 0, uT []]⟩], [o2, o3, o4, o5, o88, o10, o11, o9], .tuple ⟨[.agg ⟨[uI 1, uI 0, uI 1, uS 8 2 2]⟩, uI 0]⟩, [o19]⟩
noncomputable def call105 : Call' := cK [220, 72, 76, 112, 168, 28, 169, 170, 221, 118, 116, 173, 278, 311, 331, 349] [(181, entC [e104])]
theorem cs105 : CallSound Tryz.prog call105 := cS (tab_sound (tab_cons (cE1 Tryz.func181 ok104) tab_end))
theorem ok105 : EntOk Tryz.prog 179 e105 := rE cs105
end Go.Proofs.YtmladpbadglecaaGreatDoor
