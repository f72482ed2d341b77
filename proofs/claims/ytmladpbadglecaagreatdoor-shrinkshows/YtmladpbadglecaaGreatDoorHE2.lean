/-
  Steps of the proof.
-/
import Derived.Test.YtmladpbadglecaaGreatDoorHE0
set_option linter.unusedSimpArgs false
set_option linter.unusedVariables false
namespace Go.Proofs.YtmladpbadglecaaGreatDoor
open Go Go.AM
set_option maxRecDepth 100000
set_option maxHeartbeats 0
def e204 : Ent := ⟨[uS 0 2 3, uS 1 1 2], [o96, .row [uI 1] 1 BIG true 1], .bool false, []⟩
noncomputable def call204 : Call' := cK [26, 37, 27, 25] [(13, entC [e77, e140])]
theorem cs204 : CallSound Tryz.prog call204 := cS (tab_sound (tab_cons (con_ents Tryz.func13 rfl (ents_cons ok77 (ents_cons ok140 ents_nil))) tab_end))
theorem ok204 : EntOk Tryz.prog 12 e204 := rE cs204
def e205 : Ent := ⟨[uS 0 1 2, uS 1 2 3], [o58, o121], .bool true, []⟩
noncomputable def call205 : Call' := cK [26, 37, 27, 25] [(13, entC [e77, e140])]
theorem cs205 : CallSound Tryz.prog call205 := cS (tab_sound (tab_cons (con_ents Tryz.func13 rfl (ents_cons ok77 (ents_cons ok140 ents_nil))) tab_end))
theorem ok205 : EntOk Tryz.prog 12 e205 := rE cs205
def e206 : Ent := ⟨[uS 0 2 3, uS 1 2 3], [o99, o121], .bool false, []⟩
noncomputable def call206 : Call' := cK [26, 37, 27, 25] [(13, entC [e140, e162])]
theorem cs206 : CallSound Tryz.prog call206 := cS (tab_sound (tab_cons (con_ents Tryz.func13 rfl (ents_cons ok140 (ents_cons ok162 ents_nil))) tab_end))
theorem ok206 : EntOk Tryz.prog 12 e206 := rE cs206
def e207 : Ent := ⟨[uS 0 2 3, uS 1 2 3], [o96, o122], .bool true, []⟩
noncomputable def call207 : Call' := cK [26, 37, 27, 25] [(13, entC [e140, e162])]
theorem cs207 : CallSound Tryz.prog call207 := cS (tab_sound (tab_cons (con_ents Tryz.func13 rfl (ents_cons ok140 (ents_cons ok162 ents_nil))) tab_end))
theorem ok207 : EntOk Tryz.prog 12 e207 := rE cs207
def e208 : Ent := ⟨[uS 0 1 2, uS 1 2 3], [o90, o122], .bool true, []⟩
noncomputable def call208 : Call' := cK [26, 37, 27, 25] [(13, entC [e111, e162])]
theorem cs208 : CallSound Tryz.prog call208 := cS (tab_sound (tab_cons (con_ents Tryz.func13 rfl (ents_cons ok111 (ents_cons ok162 ents_nil))) tab_end))
theorem ok208 : EntOk Tryz.prog 12 e208 := rE cs208
def e209 : Ent := ⟨[uS 0 1 2, uS 1 2 3], [o90, o121], .bool true, []⟩
noncomputable def call209 : Call' := cK [26, 37, 27, 25] [(13, entC [e111, e140])]
theorem cs209 : CallSound Tryz.prog call209 := cS (tab_sound (tab_cons (con_ents Tryz.func13 rfl (ents_cons ok111 (ents_cons ok140 ents_nil))) tab_end))
theorem ok209 : EntOk Tryz.prog 12 e209 := rE cs209
def e210 : Ent := ⟨[uS 0 1 2, uS 1 1 2], [o90, .row [uI 1] 1 BIG true 1], .bool false, []⟩
noncomputable def call210 : Call' := cK [26, 37, 27, 25] [(13, entC [e77, e111])]
theorem cs210 : CallSound Tryz.prog call210 := cS (tab_sound (tab_cons (con_ents Tryz.func13 rfl (ents_cons ok77 (ents_cons ok111 ents_nil))) tab_end))
theorem ok210 : EntOk Tryz.prog 12 e210 := rE cs210
def e211 : Ent := ⟨[uS 0 1 2, uS 1 1 2], [o58, .row [uI 2] 1 BIG true 1], .bool true, []⟩
noncomputable def call211 : Call' := cK [26, 37, 27, 25] [(13, entC [e77, e111])]
theorem cs211 : CallSound Tryz.prog call211 := cS (tab_sound (tab_cons (con_ents Tryz.func13 rfl (ents_cons ok77 (ents_cons ok111 ents_nil))) tab_end))
theorem ok211 : EntOk Tryz.prog 12 e211 := rE cs211
def e212 : Ent := ⟨[uS 0 1 2, uS 1 1 2], [o90, .row [uI 2] 1 BIG true 1], .bool false, []⟩
noncomputable def call212 : Call' := cK [26, 37, 27, 25] [(13, entC [e111])]
theorem cs212 : CallSound Tryz.prog call212 := cS (tab_sound (tab_cons (cE1 Tryz.func13 ok111) tab_end))
theorem ok212 : EntOk Tryz.prog 12 e212 := rE cs212
def e1 : Ent := ⟨[uS 0 1 1, uT [116]], [o0], .tuple ⟨[uS 1 1 3, uI 0]⟩, [.row [uT [116], uT [116, 101, 115, 116, 32, 116, 32, 123, 32, 100, 114, 97, 119, 32, 36, 97, 32, 51, 59, 32, 100, 114, 97, 119, 32, 36, 98, 32, 50, 59, 32, 99, 104, 101, 99, 107, 32, 36, 97, 32, 42, 32, 36, 98, 32, 60, 32, 50, 59, 32, 125]] 1 BIG false 2]⟩
noncomputable def call1 : Call' := cK [58, 90, 128, 129, 35, 57, 190, 243, 131, 130, 91, 94, 134, 135, 136, 138, 192, 139, 59, 93, 61, 95, 96, 140, 193] [(62, entC [e0])]
theorem cs1 : CallSound Tryz.prog call1 := cS (tab_sound (tab_cons (cE1 Tryz.func62 ok0) tab_end))
theorem ok1 : EntOk Tryz.prog 38 e1 := rE cs1
def e4 : Ent := ⟨[.agg ⟨[uS 0 9 12, uS 1 1 2, uS 2 1 2, .slice none 0 0, .slice none 0 0, .slice none 0 0, .slice none 0 0, uS 3 1 2]⟩, .agg ⟨[uI 0, uI 0, uI 0]⟩, .slice none 0 0], [o2, o3, o4, o5], .tuple ⟨[.agg ⟨[uS 4 1 1, .slice none 0 0, uS 7 0 0, .slice none 0 0, .slice none 0 0, uI 0, uI 64, uI 0, uI 0, uI 0, uI (-1), uI (-1), uI 0, uT []]⟩, uI 0]⟩, [.row [uS 5 1 1, .slice none 0 0, uI 0, .bool false] 4 BIG false 4, .row [uI 0, uS 6 2 2] 5 BIG false 2, .row [uI 0, uI 0] 6 BIG false 2, .row [] 7 BIG false 0]⟩
noncomputable def call4 : Call' := cK [72, 76, 112, 168, 28, 170, 77, 78, 113, 116, 173, 171, 79, 118] [(71, entC [e3])]
theorem cs4 : CallSound Tryz.prog call4 := cS (tab_sound (tab_cons (cE1 Tryz.func71 ok3) tab_end))
theorem ok4 : EntOk Tryz.prog 43 e4 := rE cs4
def e5 : Ent := ⟨[.agg ⟨[uS 0 9 12, uS 1 1 2, uS 2 1 2, .slice none 0 0, .slice none 0 0, .slice none 0 0, .slice none 0 0, uS 3 1 2]⟩, .agg ⟨[uS 6 1 1, .slice none 0 0, uS 7 0 0, .slice none 0 0, .slice none 0 0, uI 0, uI 64, uI 0, uI 0, uI 0, uI (-1), uI (-1), uI 0, uT []]⟩], [o2, o3, o4, o5, o6, o7, o8, o9], uI 0, []⟩
noncomputable def call5 : Call' := cK [76, 112, 168, 28, 169, 170, 225, 283, 172, 212, 276, 37, 113, 116, 173, 171, 284, 217, 224, 118] [(71, entC [e3])]
theorem cs5 : CallSound Tryz.prog call5 := cS (tab_sound (tab_cons (cE1 Tryz.func71 ok3) tab_end))
theorem ok5 : EntOk Tryz.prog 181 e5 := rE cs5
def e9 : Ent := ⟨[.agg ⟨[uS 0 9 12, uS 1 1 2, uS 2 1 2, .slice none 0 0, .slice none 0 0, .slice none 0 0, .slice none 0 0, uS 3 1 2]⟩, .agg ⟨[uS 6 1 5, .slice none 0 0, uS 7 0 0, .slice none 0 0, .slice none 0 0, uI 1, uI 63, uI 1, uI 0, uI 0, uI (-1), uI (-1), uI 0, uT []]⟩], [o2, o3, o4, o5, o6, o10, o11, o9], uI 0, []⟩
noncomputable def call9 : Call' := cK [76, 112, 168, 28, 169, 170, 225, 283, 172, 212, 276, 37, 113, 116, 173, 171, 284, 217, 224, 118] [(71, entC [e3])]
theorem cs9 : CallSound Tryz.prog call9 := cS (tab_sound (tab_cons (cE1 Tryz.func71 ok3) tab_end))
theorem ok9 : EntOk Tryz.prog 181 e9 := rE cs9
def e13 : Ent := ⟨[.agg ⟨[uS 0 9 12, uS 1 1 2, uS 2 1 2, .slice none 0 0, .slice none 0 0, .slice none 0 0, .slice none 0 0, uS 3 1 2]⟩, .agg ⟨[uS 7 1 5, .slice none 0 0, uS 8 0 0, .slice none 0 0, .slice none 0 0, uI 2, uI 62, uI 2, uI 0, uI 0, uI (-1), uI (-1), uI 0, uT []]⟩], [o2, o3, o4, o5, o6, o20, o21, o22, o23], uI 0, []⟩
noncomputable def call13 : Call' := cK [76, 112, 168, 28, 169, 170, 225, 283, 172, 212, 276, 37, 113, 116, 173, 171, 284, 217, 224, 118] [(71, entC [e3])]
theorem cs13 : CallSound Tryz.prog call13 := cS (tab_sound (tab_cons (cE1 Tryz.func71 ok3) tab_end))
theorem ok13 : EntOk Tryz.prog 181 e13 := rE cs13
def e18 : Ent := ⟨[.agg ⟨[uS 0 9 12, uS 1 1 2, uS 2 1 2, .slice none 0 0, .slice none 0 0, .slice none 0 0, .slice none 0 0, uS 3 1 2]⟩, .agg ⟨[uS 4 1 5, .slice none 0 0, uS 5 0 0, .slice none 0 0, .slice none 0 0, uI 3, uI 61, uI 3, uI 0, uI 0, uI (-1), uI 0, uI 0, uT []]⟩], [o2, o3, o4, o5, o32, .row [] 5 BIG true 0], uI 0, []⟩
noncomputable def call18 : Call' := cK [76, 112, 168, 28, 169, 170, 225, 283, 284, 217, 224] [(71, entC [e3])]
theorem cs18 : CallSound Tryz.prog call18 := cS (tab_sound (tab_cons (cE1 Tryz.func71 ok3) tab_end))
theorem ok18 : EntOk Tryz.prog 181 e18 := rE cs18
def e70 : Ent := ⟨[.agg ⟨[uS 0 9 12, uS 1 1 2, uS 2 1 2, .slice none 0 0, .slice none 0 0, .slice none 0 0, .slice none 0 0, uS 3 1 2]⟩, .agg ⟨[uS 6 1 5, .slice none 0 0, uS 7 0 0, .slice none 0 0, .slice none 0 0, uI 1, uI 63, uI 1, uI 0, uI 0, uI (-1), uI (-1), uI 0, uT []]⟩], [o2, o3, o4, o5, o56, o10, o11, o9], uI 0, []⟩
noncomputable def call70 : Call' := cK [76, 112, 168, 28, 169, 170, 225, 283, 172, 212, 276, 37, 113, 116, 173, 171, 284, 217, 224, 118] [(71, entC [e3])]
theorem cs70 : CallSound Tryz.prog call70 := cS (tab_sound (tab_cons (cE1 Tryz.func71 ok3) tab_end))
theorem ok70 : EntOk Tryz.prog 181 e70 := rE cs70
def e74 : Ent := ⟨[.agg ⟨[uS 0 9 12, uS 1 1 2, uS 2 1 2, .slice none 0 0, .slice none 0 0, .slice none 0 0, .slice none 0 0, uS 3 1 2]⟩, .agg ⟨[uS 7 1 5, .slice none 0 0, uS 8 0 0, .slice none 0 0, .slice none 0 0, uI 2, uI 62, uI 2, uI 0, uI 0, uI (-1), uI (-1), uI 0, uT []]⟩], [o2, o3, o4, o5, o56, o20, o21, o22, o23], uI 0, []⟩
noncomputable def call74 : Call' := cK [76, 112, 168, 28, 169, 170, 225, 283, 172, 212, 276, 37, 113, 116, 173, 171, 284, 217, 224, 118] [(71, entC [e3])]
theorem cs74 : CallSound Tryz.prog call74 := cS (tab_sound (tab_cons (cE1 Tryz.func71 ok3) tab_end))
theorem ok74 : EntOk Tryz.prog 181 e74 := rE cs74
def e104 : Ent := ⟨[.agg ⟨[uS 0 9 12, uS 1 1 2, uS 2 1 2, .slice none 0 0, .slice none 0 0, .slice none 0 0, .slice none 0 0, uS 3 1 2]⟩, .agg ⟨[uS 6 1 5, .slice none 0 0, uS 7 0 0, .slice none 0 0, .slice none 0 0, uI 1, uI 63, uI 1, uI 0, uI 0, uI (-1), uI (-1), uI 0, uT []]⟩], [o2, o3, o4, o5, o88, o10, o11, o9], uI 0, []⟩
noncomputable def call104 : Call' := cK [76, 112, 168, 28, 169, 170, 225, 283, 172, 212, 276, 37, 113, 116, 173, 171, 284, 217, 224, 118] [(71, entC [e3])]
theorem cs104 : CallSound Tryz.prog call104 := cS (tab_sound (tab_cons (cE1 Tryz.func71 ok3) tab_end))
theorem ok104 : EntOk Tryz.prog 181 e104 := rE cs104
def e108 : Ent := ⟨[.agg ⟨[uS 0 9 12, uS 1 1 2, uS 2 1 2, .slice none 0 0, .slice none 0 0, .slice none 0 0, .slice none 0 0, uS 3 1 2]⟩, .agg ⟨[uS 7 1 5, .slice none 0 0, uS 8 0 0, .slice none 0 0, .slice none 0 0, uI 2, uI 62, uI 2, uI 0, uI 0, uI (-1), uI (-1), uI 0, uT []]⟩], [o2, o3, o4, o5, o88, o20, o21, o22, o23], uI 0, []⟩
noncomputable def call108 : Call' := cK [76, 112, 168, 28, 169, 170, 225, 283, 172, 212, 276, 37, 113, 116, 173, 171, 284, 217, 224, 118] [(71, entC [e3])]
theorem cs108 : CallSound Tryz.prog call108 := cS (tab_sound (tab_cons (cE1 Tryz.func71 ok3) tab_end))
theorem ok108 : EntOk Tryz.prog 181 e108 := rE cs108
def e137 : Ent := ⟨[.agg ⟨[uS 0 9 12, uS 1 1 2, uS 2 1 2, .slice none 0 0, .slice none 0 0, .slice none 0 0, .slice none 0 0, uS 3 1 2]⟩, .agg ⟨[uS 7 1 5, .slice none 0 0, uS 8 0 0, .slice none 0 0, .slice none 0 0, uI 2, uI 62, uI 2, uI 0, uI 0, uI (-1), uI (-1), uI 0, uT []]⟩], [o2, o3, o4, o5, o95, o20, o21, o22, o23], uI 0, []⟩
noncomputable def call137 : Call' := cK [76, 112, 168, 28, 169, 170, 225, 283, 172, 212, 276, 37, 113, 116, 173, 171, 284, 217, 224, 118] [(71, entC [e3])]
theorem cs137 : CallSound Tryz.prog call137 := cS (tab_sound (tab_cons (cE1 Tryz.func71 ok3) tab_end))
theorem ok137 : EntOk Tryz.prog 181 e137 := rE cs137
def e159 : Ent := ⟨[.agg ⟨[uS 0 9 12, uS 1 1 2, uS 2 1 2, .slice none 0 0, .slice none 0 0, .slice none 0 0, .slice none 0 0, uS 3 1 2]⟩, .agg ⟨[uS 7 1 5, .slice none 0 0, uS 8 0 0, .slice none 0 0, .slice none 0 0, uI 2, uI 62, uI 2, uI 0, uI 0, uI (-1), uI (-1), uI 0, uT []]⟩], [o2, o3, o4, o5, o98, o20, o21, o22, o23], uI 0, []⟩
noncomputable def call159 : Call' := cK [76, 112, 168, 28, 169, 170, 225, 283, 172, 212, 276, 37, 113, 116, 173, 171, 284, 217, 224, 118] [(71, entC [e3])]
theorem cs159 : CallSound Tryz.prog call159 := cS (tab_sound (tab_cons (cE1 Tryz.func71 ok3) tab_end))
theorem ok159 : EntOk Tryz.prog 181 e159 := rE cs159
def e183 : Ent := ⟨[.agg ⟨[uS 0 9 12, uS 1 1 2, uS 2 1 2, .slice none 0 0, .slice none 0 0, .slice none 0 0, .slice none 0 0, uS 3 1 2]⟩, .agg ⟨[uS 7 1 5, .slice none 0 0, uS 8 0 0, .slice none 0 0, .slice none 0 0, uI 2, uI 62, uI 2, uI 0, uI 0, uI (-1), uI 1, uI 0, uT [116]]⟩], [o2, o3, o4, o5, o105, o20, o106, o22, o23], uI 0, []⟩
noncomputable def call183 : Call' := cK [76, 112, 168, 28, 169, 170, 225, 283, 172, 212, 276, 37, 284, 217, 224] [(71, entC [e3])]
theorem cs183 : CallSound Tryz.prog call183 := cS (tab_sound (tab_cons (cE1 Tryz.func71 ok3) tab_end))
theorem ok183 : EntOk Tryz.prog 181 e183 := rE cs183
def e28 : Ent := ⟨[uI 6, uS 0 1 1], [.row [uT [129, 10, 129, 1, 128, 128, 129, 64, 128, 128, 128, 127, 127, 128, 129, 1, 128, 129, 3, 128, 128, 129, 1, 129, 3, 128, 128, 128, 128, 128, 128, 128]] 0 BIG true 1], .agg ⟨[uB 175, uB 131, uB 247, uB 56, uB 72, uB 255, uB 36, uB 229, uB 182, uB 22, uB 91, uB 31, uB 1, uB 187, uB 13, uB 164]⟩, []⟩
noncomputable def call28 : Call' := cK [228, 229, 230, 231] [(238, entC [e26]), (287, entS spec_compress)]
theorem cs28 : CallSound Tryz.prog call28 := cS (tab_sound (tab_cons (cE1 Tryz.func238 ok26) (tab_cons con_compress tab_end)))
theorem ok28 : EntOk Tryz.prog 184 e28 := rE cs28
def e33 : Ent := ⟨[uI 6, uS 0 1 1], [.row [uT [129, 10, 129, 1, 128, 129, 1, 129, 63, 129, 1, 128, 128, 127, 127, 128, 129, 1, 128, 129, 3, 128, 128, 129, 1, 129, 3, 129, 1, 128, 128, 128, 128, 128, 128]] 0 BIG true 1], .agg ⟨[uB 186, uB 39, uB 209, uB 128, uB 38, uB 54, uB 97, uB 122, uB 120, uB 25, uB 218, uB 169, uB 193, uB 143, uB 48, uB 198]⟩, []⟩
noncomputable def call33 : Call' := cK [228, 229, 230, 231] [(238, entC [e31]), (287, entS spec_compress)]
theorem cs33 : CallSound Tryz.prog call33 := cS (tab_sound (tab_cons (cE1 Tryz.func238 ok31) (tab_cons con_compress tab_end)))
theorem ok33 : EntOk Tryz.prog 184 e33 := rE cs33
end Go.Proofs.YtmladpbadglecaaGreatDoor
