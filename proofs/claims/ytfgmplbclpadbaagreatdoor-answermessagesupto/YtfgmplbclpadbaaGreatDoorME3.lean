/-
  Steps of the proof.
-/
import Derived.Test.YtfgmplbclpadbaaGreatDoorME0
import Derived.Test.YtfgmplbclpadbaaGreatDoorME1
import Derived.Test.YtfgmplbclpadbaaGreatDoorME2
set_option linter.unusedSimpArgs false
set_option linter.unusedVariables false
namespace Go.Proofs.YtfgmplbclpadbaaGreatDoor
open Go Go.AM
set_option maxRecDepth 100000
set_option maxHeartbeats 0
def e2 : Ent := ⟨[uS 0 1 1, uT [116]], [o0], .tuple ⟨[.agg ⟨[uS 1 2 5, uS 2 1 2, uS 3 1 2, .slice none 0 0, .slice none 0 0, .slice none 0 0, .slice none 0 0, uS 4 1 2]⟩, uI 0]⟩, [.row [uI 23, uI 2, uI 0, uI 28, uI 0, uI 0] 1 BIG false 6, .row [uI 0] 2 BIG false 1, .row [uI 1] 3 BIG false 1, .row [uT [116]] 4 BIG false 1]⟩
noncomputable def call2 : Call' := cK [56, 81, 135, 220, 134, 211, 84, 137, 221, 57, 87, 139, 58, 88, 143, 59] [(80, entC [e0]), (55, entC [e1])]
theorem cs2 : CallSound Tryz.prog call2 := cS (tab_sound (tab_cons (cE1 Tryz.func80 ok0) (tab_cons (cE1 Tryz.func55 ok1) tab_end)))
theorem ok2 : EntOk Tryz.prog 41 e2 := rE cs2
def e58 : Ent := ⟨[uS 0 3 5, uT [48, 48, 48, 48]], [o19], .tuple ⟨[.agg ⟨[uI 0, uI 3, uS 1 1 3, uS 2 2 18]⟩, uI 0]⟩, [.row [uT [48, 48, 48, 48], uT [134, 119, 162, 194, 192, 30, 116, 10, 45, 55, 30, 64, 135, 43, 99, 179]] 1 BIG false 2, .row [uB 157, uB 112, uB 60, uB 77, uB 17, uB 232, uB 247, uB 130, uB 232, uB 4, uB 185, uB 87, uB 215, uB 119, uB 251, uB 250, uB 221, uB 102, uB 78, uB 232, uB 5, uB 72, uB 177, uB 96, uB 207, uB 76, uB 125, uB 40, uB 60, uB 11, uB 236, uB 231] 2 BIG false 32]⟩
noncomputable def call58 : Call' := cK [99, 158, 159, 160, 238, 100, 161, 162, 164, 163, 239, 240] [(98, entC [e40]), (144, entC [e46, e50])]
theorem cs58 : CallSound Tryz.prog call58 := cS (tab_sound (tab_cons (cE1 Tryz.func98 ok40) (tab_cons (con_ents Tryz.func144 rfl (ents_cons ok46 (ents_cons ok50 ents_nil))) tab_end)))
theorem ok58 : EntOk Tryz.prog 65 e58 := rE cs58
def e59 : Ent := ⟨[uS 0 3 5, uT [48, 48, 48, 49]], [o19], .tuple ⟨[.agg ⟨[uI 1, uI 3, uS 1 1 3, uS 2 2 18]⟩, uI 0]⟩, [.row [uT [48, 48, 48, 49], uT [172, 100, 165, 69, 66, 246, 204, 155, 248, 45, 205, 120, 184, 47, 134, 30]] 1 BIG false 2, .row [uB 160, uB 135, uB 235, uB 191, uB 86, uB 229, uB 78, uB 181, uB 80, uB 30, uB 187, uB 104, uB 103, uB 224, uB 122, uB 207, uB 221, uB 102, uB 78, uB 232, uB 5, uB 72, uB 177, uB 96, uB 207, uB 76, uB 125, uB 40, uB 60, uB 11, uB 236, uB 231] 2 BIG false 32]⟩
noncomputable def call59 : Call' := cK [99, 158, 159, 160, 238, 100, 161, 162, 164, 163, 239, 240] [(98, entC [e40]), (144, entC [e44, e50])]
theorem cs59 : CallSound Tryz.prog call59 := cS (tab_sound (tab_cons (cE1 Tryz.func98 ok40) (tab_cons (con_ents Tryz.func144 rfl (ents_cons ok44 (ents_cons ok50 ents_nil))) tab_end)))
theorem ok59 : EntOk Tryz.prog 65 e59 := rE cs59
def e65 : Ent := ⟨[uS 0 3 5, uT [48, 48, 48, 50]], [o19], .tuple ⟨[.agg ⟨[uI 2, uI 3, uS 1 1 3, uS 2 1 17]⟩, uI 0]⟩, [o24, o25]⟩
noncomputable def call65 : Call' := cK [99, 158, 159, 160, 238, 100, 161, 162, 164, 163, 239, 240, 241] [(98, entC [e40]), (144, entC [e44, e46, e48])]
theorem cs65 : CallSound Tryz.prog call65 := cS (tab_sound (tab_cons (cE1 Tryz.func98 ok40) (tab_cons (con_ents Tryz.func144 rfl (ents_cons ok44 (ents_cons ok46 (ents_cons ok48 ents_nil)))) tab_end)))
theorem ok65 : EntOk Tryz.prog 65 e65 := rE cs65
def e70 : Ent := ⟨[uS 0 3 5, uT [48, 48, 48, 51]], [o19], .tuple ⟨[.agg ⟨[uI 2, uI 3, uS 1 1 3, uS 2 1 17]⟩, uI 0]⟩, [o24, o25]⟩
noncomputable def call70 : Call' := cK [99, 158, 159, 160, 238, 100, 161, 162, 164, 163, 239, 240, 241] [(98, entC [e40]), (144, entC [e44, e46, e48])]
theorem cs70 : CallSound Tryz.prog call70 := cS (tab_sound (tab_cons (cE1 Tryz.func98 ok40) (tab_cons (con_ents Tryz.func144 rfl (ents_cons ok44 (ents_cons ok46 (ents_cons ok48 ents_nil)))) tab_end)))
theorem ok70 : EntOk Tryz.prog 65 e70 := rE cs70
def e12 : Ent := ⟨[.agg ⟨[uS 2 1 1, .slice none 0 0, uS 3 0 0, .slice none 0 0, .slice none 0 0, uI 0, uI 64, uI 0, uI 0, uI 0, uI (-1), uI (-1), uI 0, uT []]⟩, .agg ⟨[uI 1, uI 0, uI 0, uS 4 2 2]⟩, uI 5], [o9, o10, o11, o12, .row [uI 1, uI 1] 4 BIG true 2], uI 1, []⟩
noncomputable def call12 : Call' := cK [70] [(69, entC [e7, e8, e9]), (144, entC [e11])]
theorem cs12 : CallSound Tryz.prog call12 := cS (tab_sound (tab_cons (con_ents Tryz.func69 rfl (ents_cons ok7 (ents_cons ok8 (ents_cons ok9 ents_nil)))) (tab_cons (cE1 Tryz.func144 ok11) tab_end)))
theorem ok12 : EntOk Tryz.prog 91 e12 := rE cs12
def e6 : Ent := ⟨[.agg ⟨[uS 0 2 5, uS 1 1 2, uS 2 1 2, .slice none 0 0, .slice none 0 0, .slice none 0 0, .slice none 0 0, uS 3 1 2]⟩, .agg ⟨[uI 0, uI 0, uI 0]⟩, .agg ⟨[uS 6 1 1, .slice none 0 0, uS 7 0 0, .slice none 0 0, .slice none 0 0, uI 0, uI 64, uI 0, uI 0, uI 0, uI (-1), uI (-1), uI 0, uT []]⟩], [o1, o2, o3, o4, o5, o6, o7, o8], .tuple ⟨[.agg ⟨[uI 1, uI 0, uI 0, uS 8 2 2]⟩, uI 0]⟩, [.row [uI 1, uI 1] 8 BIG false 2]⟩
noncomputable def call6 : Call' := cK [154, 102, 106, 168, 245, 228, 246, 247, 155, 174, 172, 235, 234, 290, 340, 376] [(114, entC [e5])]
theorem cs6 : CallSound Tryz.prog call6 := cS (tab_sound (tab_cons (cE1 Tryz.func114 ok5) tab_end))
theorem ok6 : EntOk Tryz.prog 97 e6 := rE cs6
def e16 : Ent := ⟨[.agg ⟨[uS 0 2 5, uS 1 1 2, uS 2 1 2, .slice none 0 0, .slice none 0 0, .slice none 0 0, .slice none 0 0, uS 3 1 2]⟩, .agg ⟨[uI 0, uI 0, uI 0]⟩, .agg ⟨[uS 6 1 5, .slice none 0 0, uS 7 0 0, .slice none 0 0, .slice none 0 0, uI 1, uI 63, uI 1, uI 0, uI 0, uI (-1), uI (-1), uI 0, uT []]⟩], [o1, o2, o3, o4, o13, o14, o15, o8], .tuple ⟨[.agg ⟨[uI 0, uI 0, uI 1, uS 8 1 1]⟩, uI 0]⟩, [.row [uI 1] 8 BIG false 1]⟩
noncomputable def call16 : Call' := cK [154, 102, 106, 168, 245, 228, 246, 247, 155, 174, 172, 235, 234, 290, 340, 376] [(114, entC [e15])]
theorem cs16 : CallSound Tryz.prog call16 := cS (tab_sound (tab_cons (cE1 Tryz.func114 ok15) tab_end))
theorem ok16 : EntOk Tryz.prog 97 e16 := rE cs16
def e69 : Ent := ⟨[.agg ⟨[uS 0 2 5, uS 1 1 2, uS 2 1 2, .slice none 0 0, .slice none 0 0, .slice none 0 0, .slice none 0 0, uS 3 1 2]⟩, .agg ⟨[uI 0, uI 0, uI 0]⟩, .agg ⟨[uS 4 1 5, .slice none 0 0, uS 5 0 0, .slice none 0 0, .slice none 0 0, uI 2, uI 62, uI 2, uI 0, uI 0, uI (-1), uI 0, uI 0, uT []]⟩], [o1, o2, o3, o4, o16, .row [] 5 BIG true 0], .tuple ⟨[.agg ⟨[uI 0, uI 0, uI 0, .slice none 0 0]⟩, uI 8]⟩, []⟩
noncomputable def call69 : Call' := cK [154, 102] [(114, entC [e19])]
theorem cs69 : CallSound Tryz.prog call69 := cS (tab_sound (tab_cons (cE1 Tryz.func114 ok19) tab_end))
theorem ok69 : EntOk Tryz.prog 97 e69 := rE cs69
def e61 : Ent := ⟨[.agg ⟨[uB 130, uB 250, uB 244, uB 151, uB 173, uB 135, uB 244, uB 149, uB 186, uB 153, uB 190, uB 109, uB 208, uB 59, uB 81, uB 83]⟩, uT [48, 48, 48, 48], .agg ⟨[uI 0, uI 3, uS 0 1 3, uS 1 2 18]⟩], [o20, .row [uB 157, uB 112, uB 60, uB 77, uB 17, uB 232, uB 247, uB 130, uB 232, uB 4, uB 185, uB 87, uB 215, uB 119, uB 251, uB 250, uB 221, uB 102, uB 78, uB 232, uB 5, uB 72, uB 177, uB 96, uB 207, uB 76, uB 125, uB 40, uB 60, uB 11, uB 236, uB 231] 1 BIG true 32], .tuple ⟨[uT [134, 119, 162, 194, 192, 30, 116, 10, 45, 55, 30, 64, 135, 43, 99, 179], .bool true, uI 0]⟩, []⟩
noncomputable def call61 : Call' := cK [175, 253, 164, 240, 241, 233, 99, 158, 159, 160, 238] [(69, entC [e25]), (144, entC [e44, e48, e52, e54]), (98, entC [e60])]
theorem cs61 : CallSound Tryz.prog call61 := cS (tab_sound (tab_cons (cE1 Tryz.func69 ok25) (tab_cons (con_ents Tryz.func144 rfl (ents_cons ok44 (ents_cons ok48 (ents_cons ok52 (ents_cons ok54 ents_nil))))) (tab_cons (cE1 Tryz.func98 ok60) tab_end))))
theorem ok61 : EntOk Tryz.prog 111 e61 := rE cs61
def e63 : Ent := ⟨[.agg ⟨[uB 130, uB 250, uB 244, uB 151, uB 173, uB 135, uB 244, uB 149, uB 186, uB 153, uB 190, uB 109, uB 208, uB 59, uB 81, uB 83]⟩, uT [48, 48, 48, 49], .agg ⟨[uI 1, uI 3, uS 0 1 3, uS 1 2 18]⟩], [o21, o23], .tuple ⟨[uT [172, 100, 165, 69, 66, 246, 204, 155, 248, 45, 205, 120, 184, 47, 134, 30], .bool true, uI 0]⟩, []⟩
noncomputable def call63 : Call' := cK [175, 253, 164, 240, 241, 233, 99, 158, 159, 160, 238] [(69, entC [e25]), (144, entC [e46, e48, e52, e54]), (98, entC [e62])]
theorem cs63 : CallSound Tryz.prog call63 := cS (tab_sound (tab_cons (cE1 Tryz.func69 ok25) (tab_cons (con_ents Tryz.func144 rfl (ents_cons ok46 (ents_cons ok48 (ents_cons ok52 (ents_cons ok54 ents_nil))))) (tab_cons (cE1 Tryz.func98 ok62) tab_end))))
theorem ok63 : EntOk Tryz.prog 111 e63 := rE cs63
def e67 : Ent := ⟨[.agg ⟨[uB 130, uB 250, uB 244, uB 151, uB 173, uB 135, uB 244, uB 149, uB 186, uB 153, uB 190, uB 109, uB 208, uB 59, uB 81, uB 83]⟩, uT [48, 48, 48, 50], .agg ⟨[uI 2, uI 3, uS 0 1 3, uS 1 1 17]⟩], [o22, o26], .tuple ⟨[uT [157, 175, 60, 171, 10, 48, 188, 192, 79, 81, 90, 30, 88, 198, 136, 48], .bool true, uI 0]⟩, []⟩
noncomputable def call67 : Call' := cK [175, 253, 164, 240, 241, 233, 99, 158, 159, 160, 238] [(69, entC [e25]), (144, entC [e50, e52, e54]), (98, entC [e66])]
theorem cs67 : CallSound Tryz.prog call67 := cS (tab_sound (tab_cons (cE1 Tryz.func69 ok25) (tab_cons (con_ents Tryz.func144 rfl (ents_cons ok50 (ents_cons ok52 (ents_cons ok54 ents_nil)))) (tab_cons (cE1 Tryz.func98 ok66) tab_end))))
theorem ok67 : EntOk Tryz.prog 111 e67 := rE cs67
def e68 : Ent := ⟨[.agg ⟨[uB 130, uB 250, uB 244, uB 151, uB 173, uB 135, uB 244, uB 149, uB 186, uB 153, uB 190, uB 109, uB 208, uB 59, uB 81, uB 83]⟩, uT [48, 48, 48, 50], .agg ⟨[uI 1, uI 3, uS 0 1 3, uS 1 2 18]⟩], [o21, o23], .tuple ⟨[uT [], .bool false, uI 17]⟩, []⟩
noncomputable def call68 : Call' := cK [175, 253, 164, 240, 241, 233, 99, 158, 159, 160, 238] [(69, entC [e25]), (144, entC [e46, e48, e52, e54]), (98, entC [e62])]
theorem cs68 : CallSound Tryz.prog call68 := cS (tab_sound (tab_cons (cE1 Tryz.func69 ok25) (tab_cons (con_ents Tryz.func144 rfl (ents_cons ok46 (ents_cons ok48 (ents_cons ok52 (ents_cons ok54 ents_nil))))) (tab_cons (cE1 Tryz.func98 ok62) tab_end))))
theorem ok68 : EntOk Tryz.prog 111 e68 := rE cs68
def e71 : Ent := ⟨[.agg ⟨[uB 130, uB 250, uB 244, uB 151, uB 173, uB 135, uB 244, uB 149, uB 186, uB 153, uB 190, uB 109, uB 208, uB 59, uB 81, uB 83]⟩, uT [48, 48, 48, 51], .agg ⟨[uI 2, uI 3, uS 0 1 3, uS 1 1 17]⟩], [o22, o26], .tuple ⟨[uT [], .bool false, uI 0]⟩, []⟩
noncomputable def call71 : Call' := cK [175, 253, 164, 240, 241, 233, 99, 158, 159, 160, 238] [(69, entC [e25]), (144, entC [e50, e52, e54]), (98, entC [e66])]
theorem cs71 : CallSound Tryz.prog call71 := cS (tab_sound (tab_cons (cE1 Tryz.func69 ok25) (tab_cons (con_ents Tryz.func144 rfl (ents_cons ok50 (ents_cons ok52 (ents_cons ok54 ents_nil)))) (tab_cons (cE1 Tryz.func98 ok66) tab_end))))
theorem ok71 : EntOk Tryz.prog 111 e71 := rE cs71
def e14 : Ent := ⟨[.agg ⟨[uS 0 2 5, uS 1 1 2, uS 2 1 2, .slice none 0 0, .slice none 0 0, .slice none 0 0, .slice none 0 0, uS 3 1 2]⟩, .agg ⟨[uI 0, uI 0, uI 0]⟩, .agg ⟨[uS 6 1 1, .slice none 0 0, uS 7 0 0, .slice none 0 0, .slice none 0 0, uI 0, uI 64, uI 0, uI 0, uI 0, uI (-1), uI (-1), uI 0, uT []]⟩, uI 1], [o1, o2, o3, o4, o5, o6, o7, o8], .tuple ⟨[.agg ⟨[uS 8 1 5, .slice none 0 0, uS 11 0 0, .slice none 0 0, .slice none 0 0, uI 1, uI 63, uI 1, uI 0, uI 0, uI (-1), uI (-1), uI 0, uT []]⟩, uS 12 1 4, uI 0]⟩, [.row [uS 9 1 3, .slice none 0 0, uI 0, .bool false] 8 BIG false 4, .row [uI 1, uS 10 1 2] 9 BIG false 2, .row [uI 1] 10 BIG false 1, .row [] 11 BIG false 0, .row [uI 5, uI 1, .bool true] 12 BIG false 3]⟩
noncomputable def call14 : Call' := cK [154, 102, 106, 168, 245, 228, 246, 247, 155, 174, 172, 235, 234, 290, 340, 376, 173, 184, 108, 169, 248, 109] [(114, entC [e5]), (185, entC [e13])]
theorem cs14 : CallSound Tryz.prog call14 := cS (tab_sound (tab_cons (cE1 Tryz.func114 ok5) (tab_cons (cE1 Tryz.func185 ok13) tab_end)))
theorem ok14 : EntOk Tryz.prog 121 e14 := rE cs14
def e18 : Ent := ⟨[.agg ⟨[uS 0 2 5, uS 1 1 2, uS 2 1 2, .slice none 0 0, .slice none 0 0, .slice none 0 0, .slice none 0 0, uS 3 1 2]⟩, .agg ⟨[uI 0, uI 0, uI 0]⟩, .agg ⟨[uS 6 1 5, .slice none 0 0, uS 7 0 0, .slice none 0 0, .slice none 0 0, uI 1, uI 63, uI 1, uI 0, uI 0, uI (-1), uI (-1), uI 0, uT []]⟩, uI 0], [o1, o2, o3, o4, o13, o14, o15, o8], .tuple ⟨[.agg ⟨[uS 8 1 5, .slice none 0 0, uS 9 0 0, .slice none 0 0, .slice none 0 0, uI 2, uI 62, uI 2, uI 0, uI 0, uI (-1), uI 0, uI 0, uT []]⟩, uS 10 2 5, uI 0]⟩, [.row [.slice none 0 0, .slice none 0 0, uI 0, .bool true] 8 BIG false 4, .row [] 9 BIG false 0, .row [uI 5, uI 0, .bool true, uI 5, uI 1, .bool true] 10 BIG false 6]⟩
noncomputable def call18 : Call' := cK [154, 102, 106, 168, 245, 228, 246, 247, 155, 174, 172, 235, 234, 290, 340, 376, 173, 184, 109] [(114, entC [e15]), (185, entC [e17])]
theorem cs18 : CallSound Tryz.prog call18 := cS (tab_sound (tab_cons (cE1 Tryz.func114 ok15) (tab_cons (cE1 Tryz.func185 ok17) tab_end)))
theorem ok18 : EntOk Tryz.prog 121 e18 := rE cs18
def e29 : Ent := ⟨[.agg ⟨[uS 2 1 1, .slice none 0 0, uS 3 0 0, .slice none 0 0, .slice none 0 0, uI 0, uI 64, uI 0, uI 0, uI 0, uI (-1), uI (-1), uI 0, uT []]⟩], [o9, o10, o11, o12], .agg ⟨[uB 134, uB 119, uB 162, uB 194, uB 192, uB 30, uB 116, uB 10, uB 45, uB 55, uB 30, uB 64, uB 135, uB 43, uB 99, uB 179]⟩, []⟩
noncomputable def call29 : Call' := cK [231, 70, 72, 46, 288, 287] [(69, entC [e7, e9, e21, e22, e23, e24, e25]), (144, entC [e28])]
theorem cs29 : CallSound Tryz.prog call29 := cS (tab_sound (tab_cons (con_ents Tryz.func69 rfl (ents_cons ok7 (ents_cons ok9 (ents_cons ok21 (ents_cons ok22 (ents_cons ok23 (ents_cons ok24 (ents_cons ok25 ents_nil)))))))) (tab_cons (cE1 Tryz.func144 ok28) tab_end)))
theorem ok29 : EntOk Tryz.prog 151 e29 := rE cs29
def e34 : Ent := ⟨[.agg ⟨[uS 2 1 5, .slice none 0 0, uS 3 0 0, .slice none 0 0, .slice none 0 0, uI 1, uI 63, uI 1, uI 0, uI 0, uI (-1), uI (-1), uI 0, uT []]⟩], [.row [uI 1] 0 BIG true 1, o17, o18, o12], .agg ⟨[uB 172, uB 100, uB 165, uB 69, uB 66, uB 246, uB 204, uB 155, uB 248, uB 45, uB 205, uB 120, uB 184, uB 47, uB 134, uB 30]⟩, []⟩
noncomputable def call34 : Call' := cK [231, 70, 72, 46, 288, 287] [(69, entC [e7, e9, e21, e22, e24, e25, e30]), (144, entC [e33])]
theorem cs34 : CallSound Tryz.prog call34 := cS (tab_sound (tab_cons (con_ents Tryz.func69 rfl (ents_cons ok7 (ents_cons ok9 (ents_cons ok21 (ents_cons ok22 (ents_cons ok24 (ents_cons ok25 (ents_cons ok30 ents_nil)))))))) (tab_cons (cE1 Tryz.func144 ok33) tab_end)))
theorem ok34 : EntOk Tryz.prog 151 e34 := rE cs34
def e39 : Ent := ⟨[.agg ⟨[uS 0 1 5, .slice none 0 0, uS 1 0 0, .slice none 0 0, .slice none 0 0, uI 2, uI 62, uI 2, uI 0, uI 0, uI (-1), uI 0, uI 0, uT []]⟩], [.row [.slice none 0 0, .slice none 0 0, uI 0, .bool true] 0 BIG true 4, .row [] 1 BIG true 0], .agg ⟨[uB 157, uB 175, uB 60, uB 171, uB 10, uB 48, uB 188, uB 192, uB 79, uB 81, uB 90, uB 30, uB 88, uB 198, uB 136, uB 48]⟩, []⟩
noncomputable def call39 : Call' := cK [231, 70, 72, 46, 288, 287] [(69, entC [e7, e9, e21, e22, e24, e25, e35]), (144, entC [e38])]
theorem cs39 : CallSound Tryz.prog call39 := cS (tab_sound (tab_cons (con_ents Tryz.func69 rfl (ents_cons ok7 (ents_cons ok9 (ents_cons ok21 (ents_cons ok22 (ents_cons ok24 (ents_cons ok25 (ents_cons ok35 ents_nil)))))))) (tab_cons (cE1 Tryz.func144 ok38) tab_end)))
theorem ok39 : EntOk Tryz.prog 151 e39 := rE cs39
def e55 : Ent := ⟨[uS 0 3 5], [o19], .tuple ⟨[.agg ⟨[uB 130, uB 250, uB 244, uB 151, uB 173, uB 135, uB 244, uB 149, uB 186, uB 153, uB 190, uB 109, uB 208, uB 59, uB 81, uB 83]⟩, uI 0]⟩, []⟩
noncomputable def call55 : Call' := cK [163, 239, 164, 240, 241, 233] [(69, entC [e25]), (98, entC [e40]), (144, entC [e44, e46, e48, e50, e52, e54])]
theorem cs55 : CallSound Tryz.prog call55 := cS (tab_sound (tab_cons (cE1 Tryz.func69 ok25) (tab_cons (cE1 Tryz.func98 ok40) (tab_cons (con_ents Tryz.func144 rfl (ents_cons ok44 (ents_cons ok46 (ents_cons ok48 (ents_cons ok50 (ents_cons ok52 (ents_cons ok54 ents_nil))))))) tab_end))))
theorem ok55 : EntOk Tryz.prog 153 e55 := rE cs55
end Go.Proofs.YtfgmplbclpadbaaGreatDoor
