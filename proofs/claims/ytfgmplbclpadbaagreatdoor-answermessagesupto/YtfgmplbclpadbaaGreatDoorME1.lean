/-
  Steps of the proof.
-/
import Derived.Test.YtfgmplbclpadbaaGreatDoorME0
set_option linter.unusedSimpArgs false
set_option linter.unusedVariables false
namespace Go.Proofs.YtfgmplbclpadbaaGreatDoor
open Go Go.AM
set_option maxRecDepth 100000
set_option maxHeartbeats 0
def e1 : Ent := ⟨[uS 0 1 1, uT [116]], [o0], .tuple ⟨[uS 1 1 3, uI 0]⟩, [.row [uT [116], uT [116, 101, 115, 116, 32, 116, 32, 123, 32, 100, 114, 97, 119, 32, 36, 97, 32, 50, 59, 32, 125]] 1 BIG false 2]⟩
noncomputable def call1 : Call' := cK [76, 123, 186, 187, 135, 220, 261, 300, 189, 188, 124, 127, 192, 193, 194, 196, 263, 197, 77, 126, 79, 128, 129, 198, 264] [(80, entC [e0])]
theorem cs1 : CallSound Tryz.prog call1 := cS (tab_sound (tab_cons (cE1 Tryz.func80 ok0) tab_end))
theorem ok1 : EntOk Tryz.prog 55 e1 := rE cs1
def e4 : Ent := ⟨[.agg ⟨[uS 0 2 5, uS 1 1 2, uS 2 1 2, .slice none 0 0, .slice none 0 0, .slice none 0 0, .slice none 0 0, uS 3 1 2]⟩, .agg ⟨[uI 0, uI 0, uI 0]⟩, .slice none 0 0], [o1, o2, o3, o4], .tuple ⟨[.agg ⟨[uS 4 1 1, .slice none 0 0, uS 7 0 0, .slice none 0 0, .slice none 0 0, uI 0, uI 64, uI 0, uI 0, uI 0, uI (-1), uI (-1), uI 0, uT []]⟩, uI 0]⟩, [.row [uS 5 1 1, .slice none 0 0, uI 0, .bool false] 4 BIG false 4, .row [uI 0, uS 6 1 1] 5 BIG false 2, .row [uI 0] 6 BIG false 1, .row [] 7 BIG false 0]⟩
noncomputable def call4 : Call' := cK [102, 106, 168, 245, 228, 247, 107, 108, 169, 172, 235, 248, 109, 174] [(101, entC [e3])]
theorem cs4 : CallSound Tryz.prog call4 := cS (tab_sound (tab_cons (cE1 Tryz.func101 ok3) tab_end))
theorem ok4 : EntOk Tryz.prog 67 e4 := rE cs4
def e5 : Ent := ⟨[.agg ⟨[uS 0 2 5, uS 1 1 2, uS 2 1 2, .slice none 0 0, .slice none 0 0, .slice none 0 0, .slice none 0 0, uS 3 1 2]⟩, .agg ⟨[uS 6 1 1, .slice none 0 0, uS 7 0 0, .slice none 0 0, .slice none 0 0, uI 0, uI 64, uI 0, uI 0, uI 0, uI (-1), uI (-1), uI 0, uT []]⟩], [o1, o2, o3, o4, o5, o6, o7, o8], uI 0, []⟩
noncomputable def call5 : Call' := cK [106, 168, 245, 228, 246, 247, 177, 254, 249, 292, 341, 138, 169, 172, 235, 248, 255, 288, 176, 174] [(101, entC [e3])]
theorem cs5 : CallSound Tryz.prog call5 := cS (tab_sound (tab_cons (cE1 Tryz.func101 ok3) tab_end))
theorem ok5 : EntOk Tryz.prog 114 e5 := rE cs5
def e15 : Ent := ⟨[.agg ⟨[uS 0 2 5, uS 1 1 2, uS 2 1 2, .slice none 0 0, .slice none 0 0, .slice none 0 0, .slice none 0 0, uS 3 1 2]⟩, .agg ⟨[uS 6 1 5, .slice none 0 0, uS 7 0 0, .slice none 0 0, .slice none 0 0, uI 1, uI 63, uI 1, uI 0, uI 0, uI (-1), uI (-1), uI 0, uT []]⟩], [o1, o2, o3, o4, o13, o14, o15, o8], uI 0, []⟩
noncomputable def call15 : Call' := cK [106, 168, 245, 228, 246, 247, 177, 254, 249, 292, 341, 138, 169, 172, 235, 248, 255, 288, 176, 174] [(101, entC [e3])]
theorem cs15 : CallSound Tryz.prog call15 := cS (tab_sound (tab_cons (cE1 Tryz.func101 ok3) tab_end))
theorem ok15 : EntOk Tryz.prog 114 e15 := rE cs15
def e19 : Ent := ⟨[.agg ⟨[uS 0 2 5, uS 1 1 2, uS 2 1 2, .slice none 0 0, .slice none 0 0, .slice none 0 0, .slice none 0 0, uS 3 1 2]⟩, .agg ⟨[uS 4 1 5, .slice none 0 0, uS 5 0 0, .slice none 0 0, .slice none 0 0, uI 2, uI 62, uI 2, uI 0, uI 0, uI (-1), uI 0, uI 0, uT []]⟩], [o1, o2, o3, o4, o16, .row [] 5 BIG true 0], uI 0, []⟩
noncomputable def call19 : Call' := cK [106, 168, 245, 228, 246, 247, 177, 254, 255, 288, 176] [(101, entC [e3])]
theorem cs19 : CallSound Tryz.prog call19 := cS (tab_sound (tab_cons (cE1 Tryz.func101 ok3) tab_end))
theorem ok19 : EntOk Tryz.prog 114 e19 := rE cs19
def e11 : Ent := ⟨[uI 15, uS 0 1 1], [.row [uT [129, 2, 129, 5, 128]] 0 BIG true 1], .agg ⟨[uB 1, uB 162, uB 83, uB 232, uB 66, uB 31, uB 82, uB 200, uB 192, uB 6, uB 85, uB 210, uB 181, uB 212, uB 148, uB 195]⟩, []⟩
noncomputable def call11 : Call' := cK [225, 226, 46, 227] [(69, entC [e8]), (285, entS spec_compress)]
theorem cs11 : CallSound Tryz.prog call11 := cS (tab_sound (tab_cons (cE1 Tryz.func69 ok8) (tab_cons con_compress tab_end)))
theorem ok11 : EntOk Tryz.prog 144 e11 := rE cs11
def e28 : Ent := ⟨[uI 6, uS 0 1 1], [.row [uT [129, 10, 129, 1, 128, 128, 129, 64, 128, 128, 128, 127, 127, 128, 129, 1, 128, 129, 3, 128, 128, 129, 1, 129, 2, 128, 128, 128, 128, 128, 128]] 0 BIG true 1], .agg ⟨[uB 134, uB 119, uB 162, uB 194, uB 192, uB 30, uB 116, uB 10, uB 45, uB 55, uB 30, uB 64, uB 135, uB 43, uB 99, uB 179]⟩, []⟩
noncomputable def call28 : Call' := cK [225, 226, 46, 227] [(69, entC [e26]), (285, entS spec_compress)]
theorem cs28 : CallSound Tryz.prog call28 := cS (tab_sound (tab_cons (cE1 Tryz.func69 ok26) (tab_cons con_compress tab_end)))
theorem ok28 : EntOk Tryz.prog 144 e28 := rE cs28
def e33 : Ent := ⟨[uI 6, uS 0 1 1], [.row [uT [129, 10, 129, 1, 128, 129, 1, 129, 63, 129, 1, 128, 128, 127, 127, 128, 129, 1, 128, 129, 3, 128, 128, 129, 1, 129, 2, 129, 1, 129, 1, 128, 128, 128, 128]] 0 BIG true 1], .agg ⟨[uB 172, uB 100, uB 165, uB 69, uB 66, uB 246, uB 204, uB 155, uB 248, uB 45, uB 205, uB 120, uB 184, uB 47, uB 134, uB 30]⟩, []⟩
noncomputable def call33 : Call' := cK [225, 226, 46, 227] [(69, entC [e31]), (285, entS spec_compress)]
theorem cs33 : CallSound Tryz.prog call33 := cS (tab_sound (tab_cons (cE1 Tryz.func69 ok31) (tab_cons con_compress tab_end)))
theorem ok33 : EntOk Tryz.prog 144 e33 := rE cs33
def e38 : Ent := ⟨[uI 6, uS 0 1 1], [.row [uT [129, 10, 129, 1, 128, 129, 2, 129, 62, 129, 2, 128, 128, 127, 128, 128, 129, 1, 128, 129, 3, 128, 129, 1, 128, 128, 128, 128, 128]] 0 BIG true 1], .agg ⟨[uB 157, uB 175, uB 60, uB 171, uB 10, uB 48, uB 188, uB 192, uB 79, uB 81, uB 90, uB 30, uB 88, uB 198, uB 136, uB 48]⟩, []⟩
noncomputable def call38 : Call' := cK [225, 226, 46, 227] [(69, entC [e36]), (285, entS spec_compress)]
theorem cs38 : CallSound Tryz.prog call38 := cS (tab_sound (tab_cons (cE1 Tryz.func69 ok36) (tab_cons con_compress tab_end)))
theorem ok38 : EntOk Tryz.prog 144 e38 := rE cs38
def e44 : Ent := ⟨[uI 3, uS 0 2 2], [o20], .agg ⟨[uB 160, uB 135, uB 235, uB 191, uB 86, uB 229, uB 78, uB 181, uB 80, uB 30, uB 187, uB 104, uB 103, uB 224, uB 122, uB 207]⟩, []⟩
noncomputable def call44 : Call' := cK [225, 226, 46, 227] [(69, entC [e41, e42]), (285, entS spec_compress)]
theorem cs44 : CallSound Tryz.prog call44 := cS (tab_sound (tab_cons (con_ents Tryz.func69 rfl (ents_cons ok41 (ents_cons ok42 ents_nil))) (tab_cons con_compress tab_end)))
theorem ok44 : EntOk Tryz.prog 144 e44 := rE cs44
end Go.Proofs.YtfgmplbclpadbaaGreatDoor
