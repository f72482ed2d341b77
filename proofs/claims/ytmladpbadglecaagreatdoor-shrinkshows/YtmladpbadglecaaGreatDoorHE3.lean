/-
  Steps of the proof.
-/
import Derived.Test.YtmladpbadglecaaGreatDoorHE0
set_option linter.unusedSimpArgs false
set_option linter.unusedVariables false
namespace Go.Proofs.YtmladpbadglecaaGreatDoor
open Go Go.AM
set_option maxRecDepth 100000
set_option maxHeartbeats 0
def e39 : Ent := ⟨[uI 6, uS 0 1 1], [.row [uT [129, 10, 129, 1, 128, 129, 2, 129, 62, 129, 2, 128, 128, 127, 127, 128, 129, 1, 128, 129, 3, 128, 128, 129, 1, 129, 3, 129, 8, 128, 128, 128, 128, 128, 128]] 0 BIG true 1], .agg ⟨[uB 42, uB 190, uB 75, uB 143, uB 252, uB 136, uB 28, uB 53, uB 103, uB 65, uB 231, uB 157, uB 170, uB 225, uB 246, uB 23]⟩, []⟩
noncomputable def call39 : Call' := cK [228, 229, 230, 231] [(238, entC [e31]), (287, entS spec_compress)]
theorem cs39 : CallSound Tryz.prog call39 := cS (tab_sound (tab_cons (cE1 Tryz.func238 ok31) (tab_cons con_compress tab_end)))
theorem ok39 : EntOk Tryz.prog 184 e39 := rE cs39
def e44 : Ent := ⟨[uI 6, uS 0 1 1], [.row [uT [129, 10, 129, 1, 128, 129, 3, 129, 61, 129, 3, 128, 128, 127, 128, 128, 129, 1, 128, 129, 3, 128, 129, 1, 128, 128, 128, 128, 128]] 0 BIG true 1], .agg ⟨[uB 77, uB 171, uB 185, uB 137, uB 22, uB 133, uB 22, uB 149, uB 70, uB 65, uB 255, uB 127, uB 127, uB 147, uB 253, uB 169]⟩, []⟩
noncomputable def call44 : Call' := cK [228, 229, 230, 231] [(238, entC [e42]), (287, entS spec_compress)]
theorem cs44 : CallSound Tryz.prog call44 := cS (tab_sound (tab_cons (cE1 Tryz.func238 ok42) (tab_cons con_compress tab_end)))
theorem ok44 : EntOk Tryz.prog 184 e44 := rE cs44
def e50 : Ent := ⟨[uI 3, uS 0 2 2], [.row [uT [48, 48, 48, 48], uT [175, 131, 247, 56, 72, 255, 36, 229, 182, 22, 91, 31, 1, 187, 13, 164]] 0 BIG true 2], .agg ⟨[uB 162, uB 240, uB 66, uB 57, uB 168, uB 104, uB 134, uB 203, uB 134, uB 51, uB 136, uB 118, uB 13, uB 149, uB 105, uB 105]⟩, []⟩
noncomputable def call50 : Call' := cK [228, 229, 230, 231] [(238, entC [e47, e48]), (287, entS spec_compress)]
theorem cs50 : CallSound Tryz.prog call50 := cS (tab_sound (tab_cons (con_ents Tryz.func238 rfl (ents_cons ok47 (ents_cons ok48 ents_nil))) (tab_cons con_compress tab_end)))
theorem ok50 : EntOk Tryz.prog 184 e50 := rE cs50
def e52 : Ent := ⟨[uI 3, uS 0 2 2], [.row [uT [48, 48, 48, 49], uT [186, 39, 209, 128, 38, 54, 97, 122, 120, 25, 218, 169, 193, 143, 48, 198]] 0 BIG true 2], .agg ⟨[uB 185, uB 145, uB 121, uB 6, uB 230, uB 241, uB 71, uB 115, uB 88, uB 228, uB 32, uB 51, uB 126, uB 229, uB 100, uB 178]⟩, []⟩
noncomputable def call52 : Call' := cK [228, 229, 230, 231] [(238, entC [e47, e48]), (287, entS spec_compress)]
theorem cs52 : CallSound Tryz.prog call52 := cS (tab_sound (tab_cons (con_ents Tryz.func238 rfl (ents_cons ok47 (ents_cons ok48 ents_nil))) (tab_cons con_compress tab_end)))
theorem ok52 : EntOk Tryz.prog 184 e52 := rE cs52
def e54 : Ent := ⟨[uI 4, uS 0 2 2], [.row [uT [162, 240, 66, 57, 168, 104, 134, 203, 134, 51, 136, 118, 13, 149, 105, 105], uT [185, 145, 121, 6, 230, 241, 71, 115, 88, 228, 32, 51, 126, 229, 100, 178]] 0 BIG true 2], .agg ⟨[uB 194, uB 74, uB 199, uB 167, uB 61, uB 21, uB 50, uB 98, uB 218, uB 179, uB 193, uB 255, uB 176, uB 149, uB 48, uB 145]⟩, []⟩
noncomputable def call54 : Call' := cK [228, 229, 230, 231] [(238, entC [e48]), (287, entS spec_compress)]
theorem cs54 : CallSound Tryz.prog call54 := cS (tab_sound (tab_cons (cE1 Tryz.func238 ok48) (tab_cons con_compress tab_end)))
theorem ok54 : EntOk Tryz.prog 184 e54 := rE cs54
def e56 : Ent := ⟨[uI 3, uS 0 2 2], [.row [uT [48, 48, 48, 50], uT [42, 190, 75, 143, 252, 136, 28, 53, 103, 65, 231, 157, 170, 225, 246, 23]] 0 BIG true 2], .agg ⟨[uB 151, uB 49, uB 167, uB 151, uB 193, uB 112, uB 110, uB 211, uB 69, uB 253, uB 79, uB 168, uB 140, uB 1, uB 241, uB 240]⟩, []⟩
noncomputable def call56 : Call' := cK [228, 229, 230, 231] [(238, entC [e47, e48]), (287, entS spec_compress)]
theorem cs56 : CallSound Tryz.prog call56 := cS (tab_sound (tab_cons (con_ents Tryz.func238 rfl (ents_cons ok47 (ents_cons ok48 ents_nil))) (tab_cons con_compress tab_end)))
theorem ok56 : EntOk Tryz.prog 184 e56 := rE cs56
def e58 : Ent := ⟨[uI 3, uS 0 2 2], [.row [uT [48, 48, 48, 51], uT [77, 171, 185, 137, 22, 133, 22, 149, 70, 65, 255, 127, 127, 147, 253, 169]] 0 BIG true 2], .agg ⟨[uB 174, uB 0, uB 51, uB 136, uB 178, uB 214, uB 172, uB 32, uB 38, uB 15, uB 126, uB 68, uB 147, uB 21, uB 187, uB 44]⟩, []⟩
noncomputable def call58 : Call' := cK [228, 229, 230, 231] [(238, entC [e47, e48]), (287, entS spec_compress)]
theorem cs58 : CallSound Tryz.prog call58 := cS (tab_sound (tab_cons (con_ents Tryz.func238 rfl (ents_cons ok47 (ents_cons ok48 ents_nil))) (tab_cons con_compress tab_end)))
theorem ok58 : EntOk Tryz.prog 184 e58 := rE cs58
def e60 : Ent := ⟨[uI 4, uS 0 2 2], [.row [uT [151, 49, 167, 151, 193, 112, 110, 211, 69, 253, 79, 168, 140, 1, 241, 240], uT [174, 0, 51, 136, 178, 214, 172, 32, 38, 15, 126, 68, 147, 21, 187, 44]] 0 BIG true 2], .agg ⟨[uB 211, uB 8, uB 153, uB 47, uB 129, uB 93, uB 151, uB 226, uB 29, uB 68, uB 68, uB 253, uB 13, uB 0, uB 157, uB 157]⟩, []⟩
noncomputable def call60 : Call' := cK [228, 229, 230, 231] [(238, entC [e48]), (287, entS spec_compress)]
theorem cs60 : CallSound Tryz.prog call60 := cS (tab_sound (tab_cons (cE1 Tryz.func238 ok48) (tab_cons con_compress tab_end)))
theorem ok60 : EntOk Tryz.prog 184 e60 := rE cs60
def e62 : Ent := ⟨[uI 4, uS 0 2 2], [.row [uT [194, 74, 199, 167, 61, 21, 50, 98, 218, 179, 193, 255, 176, 149, 48, 145], uT [211, 8, 153, 47, 129, 93, 151, 226, 29, 68, 68, 253, 13, 0, 157, 157]] 0 BIG true 2], .agg ⟨[uB 5, uB 2, uB 109, uB 84, uB 154, uB 2, uB 2, uB 119, uB 7, uB 90, uB 255, uB 29, uB 50, uB 134, uB 194, uB 71]⟩, []⟩
noncomputable def call62 : Call' := cK [228, 229, 230, 231] [(238, entC [e48]), (287, entS spec_compress)]
theorem cs62 : CallSound Tryz.prog call62 := cS (tab_sound (tab_cons (cE1 Tryz.func238 ok48) (tab_cons con_compress tab_end)))
theorem ok62 : EntOk Tryz.prog 184 e62 := rE cs62
def e64 : Ent := ⟨[uI 4, uS 0 2 2], [.row [uT [129, 4], uT [5, 2, 109, 84, 154, 2, 2, 119, 7, 90, 255, 29, 50, 134, 194, 71]] 0 BIG true 2], .agg ⟨[uB 58, uB 96, uB 155, uB 48, uB 70, uB 84, uB 237, uB 89, uB 134, uB 236, uB 82, uB 1, uB 27, uB 230, uB 176, uB 119]⟩, []⟩
noncomputable def call64 : Call' := cK [228, 229, 230, 231] [(238, entC [e35, e48]), (287, entS spec_compress)]
theorem cs64 : CallSound Tryz.prog call64 := cS (tab_sound (tab_cons (con_ents Tryz.func238 rfl (ents_cons ok35 (ents_cons ok48 ents_nil))) (tab_cons con_compress tab_end)))
theorem ok64 : EntOk Tryz.prog 184 e64 := rE cs64
def e81 : Ent := ⟨[uI 6, uS 0 1 1], [.row [uT [129, 10, 129, 1, 128, 129, 1, 129, 63, 129, 1, 128, 128, 127, 127, 128, 129, 1, 128, 129, 3, 128, 128, 129, 1, 129, 3, 129, 1, 129, 1, 128, 128, 128, 128, 128]] 0 BIG true 1], .agg ⟨[uB 63, uB 21, uB 247, uB 70, uB 155, uB 155, uB 122, uB 22, uB 195, uB 76, uB 35, uB 222, uB 251, uB 33, uB 89, uB 238]⟩, []⟩
noncomputable def call81 : Call' := cK [228, 229, 230, 231] [(238, entC [e79]), (287, entS spec_compress)]
theorem cs81 : CallSound Tryz.prog call81 := cS (tab_sound (tab_cons (cE1 Tryz.func238 ok79) (tab_cons con_compress tab_end)))
theorem ok81 : EntOk Tryz.prog 184 e81 := rE cs81
end Go.Proofs.YtmladpbadglecaaGreatDoor
namespace Go.Proofs.YtmladpbadglecaaGreatDoor
open Go Go.AM
set_option maxRecDepth 100000
set_option maxHeartbeats 0
def e84 : Ent := ⟨[uI 6, uS 0 1 1], [.row [uT [129, 10, 129, 1, 128, 129, 2, 129, 62, 129, 2, 128, 128, 127, 127, 128, 129, 1, 128, 129, 3, 128, 128, 129, 1, 129, 3, 129, 8, 129, 1, 128, 128, 128, 128, 128]] 0 BIG true 1], .agg ⟨[uB 72, uB 225, uB 81, uB 135, uB 22, uB 39, uB 85, uB 155, uB 168, uB 21, uB 125, uB 143, uB 147, uB 243, uB 202, uB 102]⟩, []⟩
noncomputable def call84 : Call' := cK [228, 229, 230, 231] [(238, entC [e79]), (287, entS spec_compress)]
theorem cs84 : CallSound Tryz.prog call84 := cS (tab_sound (tab_cons (cE1 Tryz.func238 ok79) (tab_cons con_compress tab_end)))
theorem ok84 : EntOk Tryz.prog 184 e84 := rE cs84
def e88 : Ent := ⟨[uI 3, uS 0 2 2], [.row [uT [48, 48, 48, 49], uT [63, 21, 247, 70, 155, 155, 122, 22, 195, 76, 35, 222, 251, 33, 89, 238]] 0 BIG true 2], .agg ⟨[uB 216, uB 36, uB 175, uB 135, uB 110, uB 139, uB 156, uB 15, uB 203, uB 162, uB 38, uB 120, uB 202, uB 45, uB 203, uB 195]⟩, []⟩
noncomputable def call88 : Call' := cK [228, 229, 230, 231] [(238, entC [e47, e48]), (287, entS spec_compress)]
theorem cs88 : CallSound Tryz.prog call88 := cS (tab_sound (tab_cons (con_ents Tryz.func238 rfl (ents_cons ok47 (ents_cons ok48 ents_nil))) (tab_cons con_compress tab_end)))
theorem ok88 : EntOk Tryz.prog 184 e88 := rE cs88
def e90 : Ent := ⟨[uI 4, uS 0 2 2], [.row [uT [162, 240, 66, 57, 168, 104, 134, 203, 134, 51, 136, 118, 13, 149, 105, 105], uT [216, 36, 175, 135, 110, 139, 156, 15, 203, 162, 38, 120, 202, 45, 203, 195]] 0 BIG true 2], .agg ⟨[uB 45, uB 248, uB 219, uB 172, uB 249, uB 245, uB 151, uB 175, uB 197, uB 11, uB 10, uB 234, uB 253, uB 100, uB 211, uB 153]⟩, []⟩
noncomputable def call90 : Call' := cK [228, 229, 230, 231] [(238, entC [e48]), (287, entS spec_compress)]
theorem cs90 : CallSound Tryz.prog call90 := cS (tab_sound (tab_cons (cE1 Tryz.func238 ok48) (tab_cons con_compress tab_end)))
theorem ok90 : EntOk Tryz.prog 184 e90 := rE cs90
def e92 : Ent := ⟨[uI 3, uS 0 2 2], [.row [uT [48, 48, 48, 50], uT [72, 225, 81, 135, 22, 39, 85, 155, 168, 21, 125, 143, 147, 243, 202, 102]] 0 BIG true 2], .agg ⟨[uB 164, uB 55, uB 33, uB 34, uB 136, uB 137, uB 101, uB 5, uB 105, uB 195, uB 254, uB 33, uB 231, uB 147, uB 252, uB 180]⟩, []⟩
noncomputable def call92 : Call' := cK [228, 229, 230, 231] [(238, entC [e47, e48]), (287, entS spec_compress)]
theorem cs92 : CallSound Tryz.prog call92 := cS (tab_sound (tab_cons (con_ents Tryz.func238 rfl (ents_cons ok47 (ents_cons ok48 ents_nil))) (tab_cons con_compress tab_end)))
theorem ok92 : EntOk Tryz.prog 184 e92 := rE cs92
def e94 : Ent := ⟨[uI 4, uS 0 2 2], [.row [uT [164, 55, 33, 34, 136, 137, 101, 5, 105, 195, 254, 33, 231, 147, 252, 180], uT [174, 0, 51, 136, 178, 214, 172, 32, 38, 15, 126, 68, 147, 21, 187, 44]] 0 BIG true 2], .agg ⟨[uB 44, uB 28, uB 78, uB 159, uB 115, uB 150, uB 11, uB 62, uB 50, uB 30, uB 198, uB 244, uB 250, uB 163, uB 132, uB 125]⟩, []⟩
noncomputable def call94 : Call' := cK [228, 229, 230, 231] [(238, entC [e48]), (287, entS spec_compress)]
theorem cs94 : CallSound Tryz.prog call94 := cS (tab_sound (tab_cons (cE1 Tryz.func238 ok48) (tab_cons con_compress tab_end)))
theorem ok94 : EntOk Tryz.prog 184 e94 := rE cs94
def e96 : Ent := ⟨[uI 4, uS 0 2 2], [.row [uT [45, 248, 219, 172, 249, 245, 151, 175, 197, 11, 10, 234, 253, 100, 211, 153], uT [44, 28, 78, 159, 115, 150, 11, 62, 50, 30, 198, 244, 250, 163, 132, 125]] 0 BIG true 2], .agg ⟨[uB 86, uB 215, uB 181, uB 142, uB 249, uB 205, uB 34, uB 65, uB 147, uB 5, uB 8, uB 29, uB 80, uB 208, uB 164, uB 123]⟩, []⟩
noncomputable def call96 : Call' := cK [228, 229, 230, 231] [(238, entC [e48]), (287, entS spec_compress)]
theorem cs96 : CallSound Tryz.prog call96 := cS (tab_sound (tab_cons (cE1 Tryz.func238 ok48) (tab_cons con_compress tab_end)))
theorem ok96 : EntOk Tryz.prog 184 e96 := rE cs96
def e98 : Ent := ⟨[uI 4, uS 0 2 2], [.row [uT [129, 4], uT [86, 215, 181, 142, 249, 205, 34, 65, 147, 5, 8, 29, 80, 208, 164, 123]] 0 BIG true 2], .agg ⟨[uB 72, uB 20, uB 25, uB 10, uB 163, uB 150, uB 148, uB 240, uB 251, uB 178, uB 242, uB 218, uB 99, uB 105, uB 120, uB 91]⟩, []⟩
noncomputable def call98 : Call' := cK [228, 229, 230, 231] [(238, entC [e35, e48]), (287, entS spec_compress)]
theorem cs98 : CallSound Tryz.prog call98 := cS (tab_sound (tab_cons (con_ents Tryz.func238 rfl (ents_cons ok35 (ents_cons ok48 ents_nil))) (tab_cons con_compress tab_end)))
theorem ok98 : EntOk Tryz.prog 184 e98 := rE cs98
def e114 : Ent := ⟨[uI 6, uS 0 1 1], [.row [uT [129, 10, 129, 1, 128, 129, 1, 129, 63, 129, 1, 128, 128, 127, 127, 128, 129, 1, 128, 129, 3, 128, 128, 129, 1, 129, 3, 129, 1, 129, 2, 128, 128, 128, 128, 128]] 0 BIG true 1], .agg ⟨[uB 215, uB 89, uB 101, uB 112, uB 60, uB 194, uB 117, uB 73, uB 55, uB 60, uB 54, uB 85, uB 0, uB 172, uB 145, uB 2]⟩, []⟩
noncomputable def call114 : Call' := cK [228, 229, 230, 231] [(238, entC [e79]), (287, entS spec_compress)]
theorem cs114 : CallSound Tryz.prog call114 := cS (tab_sound (tab_cons (cE1 Tryz.func238 ok79) (tab_cons con_compress tab_end)))
theorem ok114 : EntOk Tryz.prog 184 e114 := rE cs114
def e117 : Ent := ⟨[uI 6, uS 0 1 1], [.row [uT [129, 10, 129, 1, 128, 129, 2, 129, 62, 129, 2, 128, 128, 127, 127, 128, 129, 1, 128, 129, 3, 128, 128, 129, 1, 129, 3, 129, 8, 129, 2, 128, 128, 128, 128, 128]] 0 BIG true 1], .agg ⟨[uB 31, uB 227, uB 215, uB 140, uB 3, uB 85, uB 82, uB 247, uB 76, uB 115, uB 156, uB 128, uB 5, uB 115, uB 160, uB 235]⟩, []⟩
noncomputable def call117 : Call' := cK [228, 229, 230, 231] [(238, entC [e79]), (287, entS spec_compress)]
theorem cs117 : CallSound Tryz.prog call117 := cS (tab_sound (tab_cons (cE1 Tryz.func238 ok79) (tab_cons con_compress tab_end)))
theorem ok117 : EntOk Tryz.prog 184 e117 := rE cs117
def e121 : Ent := ⟨[uI 3, uS 0 2 2], [.row [uT [48, 48, 48, 49], uT [215, 89, 101, 112, 60, 194, 117, 73, 55, 60, 54, 85, 0, 172, 145, 2]] 0 BIG true 2], .agg ⟨[uB 43, uB 221, uB 251, uB 25, uB 179, uB 128, uB 94, uB 44, uB 191, uB 181, uB 20, uB 59, uB 208, uB 6, uB 214, uB 194]⟩, []⟩
noncomputable def call121 : Call' := cK [228, 229, 230, 231] [(238, entC [e47, e48]), (287, entS spec_compress)]
theorem cs121 : CallSound Tryz.prog call121 := cS (tab_sound (tab_cons (con_ents Tryz.func238 rfl (ents_cons ok47 (ents_cons ok48 ents_nil))) (tab_cons con_compress tab_end)))
theorem ok121 : EntOk Tryz.prog 184 e121 := rE cs121
def e123 : Ent := ⟨[uI 4, uS 0 2 2], [.row [uT [162, 240, 66, 57, 168, 104, 134, 203, 134, 51, 136, 118, 13, 149, 105, 105], uT [43, 221, 251, 25, 179, 128, 94, 44, 191, 181, 20, 59, 208, 6, 214, 194]] 0 BIG true 2], .agg ⟨[uB 56, uB 207, uB 190, uB 100, uB 254, uB 71, uB 129, uB 228, uB 142, uB 206, uB 34, uB 67, uB 102, uB 190, uB 28, uB 72]⟩, []⟩
noncomputable def call123 : Call' := cK [228, 229, 230, 231] [(238, entC [e48]), (287, entS spec_compress)]
theorem cs123 : CallSound Tryz.prog call123 := cS (tab_sound (tab_cons (cE1 Tryz.func238 ok48) (tab_cons con_compress tab_end)))
theorem ok123 : EntOk Tryz.prog 184 e123 := rE cs123
end Go.Proofs.YtmladpbadglecaaGreatDoor
