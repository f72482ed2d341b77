/-
  Steps of the proof.
-/
import Derived.Test.YtmladpbadglecaaGreatDoorHE0
set_option linter.unusedSimpArgs false
set_option linter.unusedVariables false
namespace Go.Proofs.YtmladpbadglecaaGreatDoor
open Go Go.AM
set_option maxRecDepth 100000
set_option maxHeartbeats 0
def e125 : Ent := ⟨[uI 3, uS 0 2 2], [.row [uT [48, 48, 48, 50], uT [31, 227, 215, 140, 3, 85, 82, 247, 76, 115, 156, 128, 5, 115, 160, 235]] 0 BIG true 2], .agg ⟨[uB 8, uB 20, uB 76, uB 18, uB 136, uB 208, uB 121, uB 28, uB 226, uB 230, uB 111, uB 81, uB 46, uB 85, uB 189, uB 195]⟩, []⟩
noncomputable def call125 : Call' := cK [228, 229, 230, 231] [(238, entC [e47, e48]), (287, entS spec_compress)]
theorem cs125 : CallSound Tryz.prog call125 := cS (tab_sound (tab_cons (con_ents Tryz.func238 rfl (ents_cons ok47 (ents_cons ok48 ents_nil))) (tab_cons con_compress tab_end)))
theorem ok125 : EntOk Tryz.prog 184 e125 := rE cs125
def e127 : Ent := ⟨[uI 4, uS 0 2 2], [.row [uT [8, 20, 76, 18, 136, 208, 121, 28, 226, 230, 111, 81, 46, 85, 189, 195], uT [174, 0, 51, 136, 178, 214, 172, 32, 38, 15, 126, 68, 147, 21, 187, 44]] 0 BIG true 2], .agg ⟨[uB 223, uB 116, uB 66, uB 211, uB 8, uB 182, uB 173, uB 166, uB 127, uB 191, uB 241, uB 70, uB 100, uB 213, uB 91, uB 245]⟩, []⟩
noncomputable def call127 : Call' := cK [228, 229, 230, 231] [(238, entC [e48]), (287, entS spec_compress)]
theorem cs127 : CallSound Tryz.prog call127 := cS (tab_sound (tab_cons (cE1 Tryz.func238 ok48) (tab_cons con_compress tab_end)))
theorem ok127 : EntOk Tryz.prog 184 e127 := rE cs127
def e129 : Ent := ⟨[uI 4, uS 0 2 2], [.row [uT [56, 207, 190, 100, 254, 71, 129, 228, 142, 206, 34, 67, 102, 190, 28, 72], uT [223, 116, 66, 211, 8, 182, 173, 166, 127, 191, 241, 70, 100, 213, 91, 245]] 0 BIG true 2], .agg ⟨[uB 110, uB 215, uB 100, uB 145, uB 11, uB 44, uB 181, uB 64, uB 27, uB 238, uB 39, uB 81, uB 133, uB 225, uB 207, uB 166]⟩, []⟩
noncomputable def call129 : Call' := cK [228, 229, 230, 231] [(238, entC [e48]), (287, entS spec_compress)]
theorem cs129 : CallSound Tryz.prog call129 := cS (tab_sound (tab_cons (cE1 Tryz.func238 ok48) (tab_cons con_compress tab_end)))
theorem ok129 : EntOk Tryz.prog 184 e129 := rE cs129
def e131 : Ent := ⟨[uI 4, uS 0 2 2], [.row [uT [129, 4], uT [110, 215, 100, 145, 11, 44, 181, 64, 27, 238, 39, 81, 133, 225, 207, 166]] 0 BIG true 2], .agg ⟨[uB 180, uB 63, uB 18, uB 108, uB 214, uB 38, uB 232, uB 198, uB 203, uB 76, uB 70, uB 192, uB 161, uB 60, uB 185, uB 111]⟩, []⟩
noncomputable def call131 : Call' := cK [228, 229, 230, 231] [(238, entC [e35, e48]), (287, entS spec_compress)]
theorem cs131 : CallSound Tryz.prog call131 := cS (tab_sound (tab_cons (con_ents Tryz.func238 rfl (ents_cons ok35 (ents_cons ok48 ents_nil))) (tab_cons con_compress tab_end)))
theorem ok131 : EntOk Tryz.prog 184 e131 := rE cs131
def e143 : Ent := ⟨[uI 6, uS 0 1 1], [.row [uT [129, 10, 129, 1, 128, 129, 2, 129, 62, 129, 2, 128, 128, 127, 127, 128, 129, 1, 128, 129, 3, 128, 128, 129, 1, 129, 3, 129, 8, 128, 129, 1, 128, 128, 128, 128]] 0 BIG true 1], .agg ⟨[uB 46, uB 118, uB 138, uB 119, uB 93, uB 24, uB 33, uB 227, uB 212, uB 41, uB 102, uB 170, uB 128, uB 19, uB 151, uB 244]⟩, []⟩
noncomputable def call143 : Call' := cK [228, 229, 230, 231] [(238, entC [e79]), (287, entS spec_compress)]
theorem cs143 : CallSound Tryz.prog call143 := cS (tab_sound (tab_cons (cE1 Tryz.func238 ok79) (tab_cons con_compress tab_end)))
theorem ok143 : EntOk Tryz.prog 184 e143 := rE cs143
def e147 : Ent := ⟨[uI 3, uS 0 2 2], [.row [uT [48, 48, 48, 50], uT [46, 118, 138, 119, 93, 24, 33, 227, 212, 41, 102, 170, 128, 19, 151, 244]] 0 BIG true 2], .agg ⟨[uB 83, uB 154, uB 156, uB 233, uB 236, uB 58, uB 86, uB 3, uB 44, uB 191, uB 78, uB 243, uB 95, uB 182, uB 80, uB 102]⟩, []⟩
noncomputable def call147 : Call' := cK [228, 229, 230, 231] [(238, entC [e47, e48]), (287, entS spec_compress)]
theorem cs147 : CallSound Tryz.prog call147 := cS (tab_sound (tab_cons (con_ents Tryz.func238 rfl (ents_cons ok47 (ents_cons ok48 ents_nil))) (tab_cons con_compress tab_end)))
theorem ok147 : EntOk Tryz.prog 184 e147 := rE cs147
def e149 : Ent := ⟨[uI 4, uS 0 2 2], [.row [uT [83, 154, 156, 233, 236, 58, 86, 3, 44, 191, 78, 243, 95, 182, 80, 102], uT [174, 0, 51, 136, 178, 214, 172, 32, 38, 15, 126, 68, 147, 21, 187, 44]] 0 BIG true 2], .agg ⟨[uB 212, uB 237, uB 73, uB 148, uB 65, uB 19, uB 146, uB 5, uB 31, uB 139, uB 165, uB 57, uB 108, uB 66, uB 63, uB 149]⟩, []⟩
noncomputable def call149 : Call' := cK [228, 229, 230, 231] [(238, entC [e48]), (287, entS spec_compress)]
theorem cs149 : CallSound Tryz.prog call149 := cS (tab_sound (tab_cons (cE1 Tryz.func238 ok48) (tab_cons con_compress tab_end)))
theorem ok149 : EntOk Tryz.prog 184 e149 := rE cs149
def e151 : Ent := ⟨[uI 4, uS 0 2 2], [.row [uT [194, 74, 199, 167, 61, 21, 50, 98, 218, 179, 193, 255, 176, 149, 48, 145], uT [212, 237, 73, 148, 65, 19, 146, 5, 31, 139, 165, 57, 108, 66, 63, 149]] 0 BIG true 2], .agg ⟨[uB 242, uB 205, uB 39, uB 193, uB 230, uB 141, uB 109, uB 217, uB 36, uB 195, uB 6, uB 239, uB 1, uB 88, uB 176, uB 195]⟩, []⟩
noncomputable def call151 : Call' := cK [228, 229, 230, 231] [(238, entC [e48]), (287, entS spec_compress)]
theorem cs151 : CallSound Tryz.prog call151 := cS (tab_sound (tab_cons (cE1 Tryz.func238 ok48) (tab_cons con_compress tab_end)))
theorem ok151 : EntOk Tryz.prog 184 e151 := rE cs151
def e153 : Ent := ⟨[uI 4, uS 0 2 2], [.row [uT [129, 4], uT [242, 205, 39, 193, 230, 141, 109, 217, 36, 195, 6, 239, 1, 88, 176, 195]] 0 BIG true 2], .agg ⟨[uB 29, uB 136, uB 95, uB 32, uB 141, uB 88, uB 125, uB 170, uB 188, uB 229, uB 157, uB 130, uB 58, uB 231, uB 36, uB 106]⟩, []⟩
noncomputable def call153 : Call' := cK [228, 229, 230, 231] [(238, entC [e35, e48]), (287, entS spec_compress)]
theorem cs153 : CallSound Tryz.prog call153 := cS (tab_sound (tab_cons (con_ents Tryz.func238 rfl (ents_cons ok35 (ents_cons ok48 ents_nil))) (tab_cons con_compress tab_end)))
theorem ok153 : EntOk Tryz.prog 184 e153 := rE cs153
def e166 : Ent := ⟨[uI 6, uS 0 1 1], [.row [uT [129, 10, 129, 1, 128, 129, 2, 129, 62, 129, 2, 128, 128, 127, 127, 128, 129, 1, 128, 129, 3, 128, 128, 129, 1, 129, 3, 129, 8, 129, 1, 129, 1, 128, 128, 128, 128]] 0 BIG true 1], .agg ⟨[uB 156, uB 35, uB 95, uB 164, uB 199, uB 184, uB 177, uB 247, uB 15, uB 84, uB 158, uB 185, uB 109, uB 19, uB 171, uB 116]⟩, []⟩
noncomputable def call166 : Call' := cK [228, 229, 230, 231] [(238, entC [e164]), (287, entS spec_compress)]
theorem cs166 : CallSound Tryz.prog call166 := cS (tab_sound (tab_cons (cE1 Tryz.func238 ok164) (tab_cons con_compress tab_end)))
theorem ok166 : EntOk Tryz.prog 184 e166 := rE cs166
def e170 : Ent := ⟨[uI 3, uS 0 2 2], [.row [uT [48, 48, 48, 50], uT [156, 35, 95, 164, 199, 184, 177, 247, 15, 84, 158, 185, 109, 19, 171, 116]] 0 BIG true 2], .agg ⟨[uB 6, uB 12, uB 45, uB 159, uB 96, uB 114, uB 75, uB 60, uB 4, uB 3, uB 243, uB 112, uB 89, uB 232, uB 92, uB 166]⟩, []⟩
noncomputable def call170 : Call' := cK [228, 229, 230, 231] [(238, entC [e47, e48]), (287, entS spec_compress)]
theorem cs170 : CallSound Tryz.prog call170 := cS (tab_sound (tab_cons (con_ents Tryz.func238 rfl (ents_cons ok47 (ents_cons ok48 ents_nil))) (tab_cons con_compress tab_end)))
theorem ok170 : EntOk Tryz.prog 184 e170 := rE cs170
end Go.Proofs.YtmladpbadglecaaGreatDoor
namespace Go.Proofs.YtmladpbadglecaaGreatDoor
open Go Go.AM
set_option maxRecDepth 100000
set_option maxHeartbeats 0
def e172 : Ent := ⟨[uI 4, uS 0 2 2], [.row [uT [6, 12, 45, 159, 96, 114, 75, 60, 4, 3, 243, 112, 89, 232, 92, 166], uT [174, 0, 51, 136, 178, 214, 172, 32, 38, 15, 126, 68, 147, 21, 187, 44]] 0 BIG true 2], .agg ⟨[uB 78, uB 188, uB 135, uB 170, uB 1, uB 81, uB 242, uB 16, uB 185, uB 110, uB 160, uB 88, uB 93, uB 27, uB 25, uB 243]⟩, []⟩
noncomputable def call172 : Call' := cK [228, 229, 230, 231] [(238, entC [e48]), (287, entS spec_compress)]
theorem cs172 : CallSound Tryz.prog call172 := cS (tab_sound (tab_cons (cE1 Tryz.func238 ok48) (tab_cons con_compress tab_end)))
theorem ok172 : EntOk Tryz.prog 184 e172 := rE cs172
def e174 : Ent := ⟨[uI 4, uS 0 2 2], [.row [uT [45, 248, 219, 172, 249, 245, 151, 175, 197, 11, 10, 234, 253, 100, 211, 153], uT [78, 188, 135, 170, 1, 81, 242, 16, 185, 110, 160, 88, 93, 27, 25, 243]] 0 BIG true 2], .agg ⟨[uB 154, uB 249, uB 24, uB 216, uB 143, uB 179, uB 210, uB 108, uB 210, uB 46, uB 63, uB 176, uB 110, uB 31, uB 187, uB 145]⟩, []⟩
noncomputable def call174 : Call' := cK [228, 229, 230, 231] [(238, entC [e48]), (287, entS spec_compress)]
theorem cs174 : CallSound Tryz.prog call174 := cS (tab_sound (tab_cons (cE1 Tryz.func238 ok48) (tab_cons con_compress tab_end)))
theorem ok174 : EntOk Tryz.prog 184 e174 := rE cs174
def e176 : Ent := ⟨[uI 4, uS 0 2 2], [.row [uT [129, 4], uT [154, 249, 24, 216, 143, 179, 210, 108, 210, 46, 63, 176, 110, 31, 187, 145]] 0 BIG true 2], .agg ⟨[uB 214, uB 27, uB 187, uB 92, uB 94, uB 182, uB 167, uB 110, uB 238, uB 81, uB 184, uB 157, uB 112, uB 84, uB 175, uB 248]⟩, []⟩
noncomputable def call176 : Call' := cK [228, 229, 230, 231] [(238, entC [e35, e48]), (287, entS spec_compress)]
theorem cs176 : CallSound Tryz.prog call176 := cS (tab_sound (tab_cons (con_ents Tryz.func238 rfl (ents_cons ok35 (ents_cons ok48 ents_nil))) (tab_cons con_compress tab_end)))
theorem ok176 : EntOk Tryz.prog 184 e176 := rE cs176
def e187 : Ent := ⟨[uI 6, uS 0 1 1], [.row [uT [129, 10, 129, 1, 128, 129, 2, 129, 62, 129, 2, 128, 128, 127, 129, 1, 128, 129, 1, 129, 1, 116, 129, 3, 128, 128, 129, 1, 129, 3, 129, 8, 129, 2, 129, 1, 128, 128, 128, 128]] 0 BIG true 1], .agg ⟨[uB 184, uB 151, uB 154, uB 206, uB 144, uB 66, uB 10, uB 81, uB 100, uB 125, uB 61, uB 227, uB 87, uB 154, uB 37, uB 211]⟩, []⟩
noncomputable def call187 : Call' := cK [228, 229, 230, 231] [(238, entC [e185]), (287, entS spec_compress)]
theorem cs187 : CallSound Tryz.prog call187 := cS (tab_sound (tab_cons (cE1 Tryz.func238 ok185) (tab_cons con_compress tab_end)))
theorem ok187 : EntOk Tryz.prog 184 e187 := rE cs187
def e191 : Ent := ⟨[uI 3, uS 0 2 2], [.row [uT [48, 48, 48, 50], uT [184, 151, 154, 206, 144, 66, 10, 81, 100, 125, 61, 227, 87, 154, 37, 211]] 0 BIG true 2], .agg ⟨[uB 214, uB 114, uB 167, uB 10, uB 128, uB 168, uB 116, uB 93, uB 210, uB 80, uB 130, uB 27, uB 215, uB 136, uB 19, uB 245]⟩, []⟩
noncomputable def call191 : Call' := cK [228, 229, 230, 231] [(238, entC [e47, e48]), (287, entS spec_compress)]
theorem cs191 : CallSound Tryz.prog call191 := cS (tab_sound (tab_cons (con_ents Tryz.func238 rfl (ents_cons ok47 (ents_cons ok48 ents_nil))) (tab_cons con_compress tab_end)))
theorem ok191 : EntOk Tryz.prog 184 e191 := rE cs191
def e193 : Ent := ⟨[uI 4, uS 0 2 2], [.row [uT [56, 207, 190, 100, 254, 71, 129, 228, 142, 206, 34, 67, 102, 190, 28, 72], uT [214, 114, 167, 10, 128, 168, 116, 93, 210, 80, 130, 27, 215, 136, 19, 245]] 0 BIG true 2], .agg ⟨[uB 90, uB 141, uB 7, uB 91, uB 67, uB 91, uB 41, uB 27, uB 147, uB 98, uB 194, uB 106, uB 11, uB 211, uB 243, uB 159]⟩, []⟩
noncomputable def call193 : Call' := cK [228, 229, 230, 231] [(238, entC [e48]), (287, entS spec_compress)]
theorem cs193 : CallSound Tryz.prog call193 := cS (tab_sound (tab_cons (cE1 Tryz.func238 ok48) (tab_cons con_compress tab_end)))
theorem ok193 : EntOk Tryz.prog 184 e193 := rE cs193
def e195 : Ent := ⟨[uI 4, uS 0 2 2], [.row [uT [129, 3], uT [90, 141, 7, 91, 67, 91, 41, 27, 147, 98, 194, 106, 11, 211, 243, 159]] 0 BIG true 2], .agg ⟨[uB 103, uB 150, uB 50, uB 133, uB 138, uB 72, uB 75, uB 72, uB 19, uB 163, uB 86, uB 13, uB 15, uB 248, uB 117, uB 4]⟩, []⟩
noncomputable def call195 : Call' := cK [228, 229, 230, 231] [(238, entC [e35, e48]), (287, entS spec_compress)]
theorem cs195 : CallSound Tryz.prog call195 := cS (tab_sound (tab_cons (con_ents Tryz.func238 rfl (ents_cons ok35 (ents_cons ok48 ents_nil))) (tab_cons con_compress tab_end)))
theorem ok195 : EntOk Tryz.prog 184 e195 := rE cs195
end Go.Proofs.YtmladpbadglecaaGreatDoor
