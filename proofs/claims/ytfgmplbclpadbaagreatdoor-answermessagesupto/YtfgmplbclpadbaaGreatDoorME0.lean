/-
  Steps of the proof.
-/
import Derived.Test.YtfgmplbclpadbaaGreatDoorMHe
set_option linter.unusedSimpArgs false
set_option linter.unusedVariables false
namespace Go.Proofs.YtfgmplbclpadbaaGreatDoor
open Go Go.AM
set_option maxRecDepth 100000
set_option maxHeartbeats 0
def e7 : Ent := ⟨[uI 2], [], uS 0 2 3, [.row [uB 129, uB 2] 0 BIG false 2]⟩
noncomputable def call7 : Call' := cK [] []
theorem cs7 : CallSound Tryz.prog call7 := cS (tab_sound tab_end)
theorem ok7 : EntOk Tryz.prog 69 e7 := rE cs7
def e8 : Ent := ⟨[uI 5], [], uS 0 2 3, [.row [uB 129, uB 5] 0 BIG false 2]⟩
noncomputable def call8 : Call' := cK [] []
theorem cs8 : CallSound Tryz.prog call8 := cS (tab_sound tab_end)
theorem ok8 : EntOk Tryz.prog 69 e8 := rE cs8
def e9 : Ent := ⟨[uI 0], [], uS 0 1 1, [.row [uB 128] 0 BIG false 1]⟩
noncomputable def call9 : Call' := cK [] []
theorem cs9 : CallSound Tryz.prog call9 := cS (tab_sound tab_end)
theorem ok9 : EntOk Tryz.prog 69 e9 := rE cs9
def e21 : Ent := ⟨[uI 10], [], uS 0 2 3, [.row [uB 129, uB 10] 0 BIG false 2]⟩
noncomputable def call21 : Call' := cK [] []
theorem cs21 : CallSound Tryz.prog call21 := cS (tab_sound tab_end)
theorem ok21 : EntOk Tryz.prog 69 e21 := rE cs21
def e22 : Ent := ⟨[uI 1], [], uS 0 2 3, [.row [uB 129, uB 1] 0 BIG false 2]⟩
noncomputable def call22 : Call' := cK [] []
theorem cs22 : CallSound Tryz.prog call22 := cS (tab_sound tab_end)
theorem ok22 : EntOk Tryz.prog 69 e22 := rE cs22
def e23 : Ent := ⟨[uI 64], [], uS 0 2 3, [.row [uB 129, uB 64] 0 BIG false 2]⟩
noncomputable def call23 : Call' := cK [] []
theorem cs23 : CallSound Tryz.prog call23 := cS (tab_sound tab_end)
theorem ok23 : EntOk Tryz.prog 69 e23 := rE cs23
def e24 : Ent := ⟨[uI (-1)], [], uS 0 1 1, [.row [uB 127] 0 BIG false 1]⟩
noncomputable def call24 : Call' := cK [] []
theorem cs24 : CallSound Tryz.prog call24 := cS (tab_sound tab_end)
theorem ok24 : EntOk Tryz.prog 69 e24 := rE cs24
def e25 : Ent := ⟨[uI 3], [], uS 0 2 3, [.row [uB 129, uB 3] 0 BIG false 2]⟩
noncomputable def call25 : Call' := cK [] []
theorem cs25 : CallSound Tryz.prog call25 := cS (tab_sound tab_end)
theorem ok25 : EntOk Tryz.prog 69 e25 := rE cs25
def e26 : Ent := ⟨[uI 31], [], uS 0 2 3, [.row [uB 129, uB 31] 0 BIG false 2]⟩
noncomputable def call26 : Call' := cK [] []
theorem cs26 : CallSound Tryz.prog call26 := cS (tab_sound tab_end)
theorem ok26 : EntOk Tryz.prog 69 e26 := rE cs26
def e30 : Ent := ⟨[uI 63], [], uS 0 2 3, [.row [uB 129, uB 63] 0 BIG false 2]⟩
noncomputable def call30 : Call' := cK [] []
theorem cs30 : CallSound Tryz.prog call30 := cS (tab_sound tab_end)
theorem ok30 : EntOk Tryz.prog 69 e30 := rE cs30
def e31 : Ent := ⟨[uI 35], [], uS 0 2 3, [.row [uB 129, uB 35] 0 BIG false 2]⟩
noncomputable def call31 : Call' := cK [] []
theorem cs31 : CallSound Tryz.prog call31 := cS (tab_sound tab_end)
theorem ok31 : EntOk Tryz.prog 69 e31 := rE cs31
def e35 : Ent := ⟨[uI 62], [], uS 0 2 3, [.row [uB 129, uB 62] 0 BIG false 2]⟩
noncomputable def call35 : Call' := cK [] []
theorem cs35 : CallSound Tryz.prog call35 := cS (tab_sound tab_end)
theorem ok35 : EntOk Tryz.prog 69 e35 := rE cs35
def e36 : Ent := ⟨[uI 29], [], uS 0 2 3, [.row [uB 129, uB 29] 0 BIG false 2]⟩
noncomputable def call36 : Call' := cK [] []
theorem cs36 : CallSound Tryz.prog call36 := cS (tab_sound tab_end)
theorem ok36 : EntOk Tryz.prog 69 e36 := rE cs36
def e41 : Ent := ⟨[uI 4], [], uS 0 2 3, [.row [uB 129, uB 4] 0 BIG false 2]⟩
noncomputable def call41 : Call' := cK [] []
theorem cs41 : CallSound Tryz.prog call41 := cS (tab_sound tab_end)
theorem ok41 : EntOk Tryz.prog 69 e41 := rE cs41
def e42 : Ent := ⟨[uI 16], [], uS 0 2 3, [.row [uB 129, uB 16] 0 BIG false 2]⟩
noncomputable def call42 : Call' := cK [] []
theorem cs42 : CallSound Tryz.prog call42 := cS (tab_sound tab_end)
theorem ok42 : EntOk Tryz.prog 69 e42 := rE cs42
def e0 : Ent := ⟨[uT [116, 101, 115, 116, 32, 116, 32, 123, 32, 100, 114, 97, 119, 32, 36, 97, 32, 50, 59, 32, 125]], [], .tuple ⟨[.agg ⟨[uI 6, uT [116], uI 0, uS 0 1 1]⟩, uI 0, uI 0]⟩, [.row [uI 8, uT [], uI 0, uS 1 1 5] 0 BIG false 4, .row [uI 19, uT [97], uI 2, .slice none 0 0] 1 BIG false 4]⟩
noncomputable def call0 : Call' := cK [131, 199, 266, 267, 269, 311, 268, 270, 312, 271, 313, 132, 200, 139, 202, 203, 272, 314, 191, 204, 205, 273, 316, 317, 361, 386, 207, 274, 319, 133, 208, 209, 275, 324, 325, 276, 329, 196, 263, 277, 321, 367, 323, 210, 278, 330, 152, 232, 289, 336] []
theorem cs0 : CallSound Tryz.prog call0 := cS (tab_sound tab_end)
theorem ok0 : EntOk Tryz.prog 80 e0 := rE cs0
def e64 : Ent := ⟨[.agg ⟨[uS 2 1 5, .slice none 0 0, uS 3 0 0, .slice none 0 0, .slice none 0 0, uI 1, uI 63, uI 1, uI 0, uI 0, uI (-1), uI (-1), uI 0, uT []]⟩, .agg ⟨[uI 0, uI 0, uI 1, uS 4 1 1]⟩, uI 5], [.row [uI 1] 0 BIG true 1, o17, o18, o12, o13], uI 0, []⟩
noncomputable def call64 : Call' := cK [] []
theorem cs64 : CallSound Tryz.prog call64 := cS (tab_sound tab_end)
theorem ok64 : EntOk Tryz.prog 91 e64 := rE cs64
def e40 : Ent := ⟨[uS 0 3 5], [o19], uI 0, []⟩
noncomputable def call40 : Call' := cK [156, 237, 157] []
theorem cs40 : CallSound Tryz.prog call40 := cS (tab_sound tab_end)
theorem ok40 : EntOk Tryz.prog 98 e40 := rE cs40
def e60 : Ent := ⟨[uS 0 1 3], [o20], uI 0, []⟩
noncomputable def call60 : Call' := cK [156, 237, 157] []
theorem cs60 : CallSound Tryz.prog call60 := cS (tab_sound tab_end)
theorem ok60 : EntOk Tryz.prog 98 e60 := rE cs60
def e62 : Ent := ⟨[uS 0 1 3], [o21], uI 0, []⟩
noncomputable def call62 : Call' := cK [156, 237, 157] []
theorem cs62 : CallSound Tryz.prog call62 := cS (tab_sound tab_end)
theorem ok62 : EntOk Tryz.prog 98 e62 := rE cs62
def e66 : Ent := ⟨[uS 0 1 3], [o22], uI 0, []⟩
noncomputable def call66 : Call' := cK [156, 237, 157] []
theorem cs66 : CallSound Tryz.prog call66 := cS (tab_sound tab_end)
theorem ok66 : EntOk Tryz.prog 98 e66 := rE cs66
def e3 : Ent := ⟨[.agg ⟨[uS 0 2 5, uS 1 1 2, uS 2 1 2, .slice none 0 0, .slice none 0 0, .slice none 0 0, .slice none 0 0, uS 3 1 2]⟩], [o1, o2, o3, o4], .tuple ⟨[uI 2, uI 0]⟩, []⟩
noncomputable def call3 : Call' := cK [165, 242, 243, 104, 166, 167] []
theorem cs3 : CallSound Tryz.prog call3 := cS (tab_sound tab_end)
theorem ok3 : EntOk Tryz.prog 101 e3 := rE cs3
def e13 : Ent := ⟨[.pointer (some ⟨9, 0, none⟩)], [o1, o2, o3, o4, o13, o14, o15, o8, .map [⟨.agg ⟨[uI 5, uI 1, .bool false]⟩, .bool true, 0⟩] 1, .row [uS 0 2 5, uS 1 1 2, uS 2 1 2, .slice none 0 0, .slice none 0 0, .slice none 0 0, .slice none 0 0, uS 3 1 2, uI 0, uI 0, uI 0, uS 6 1 5, .slice none 0 0, uS 7 0 0, .slice none 0 0, .slice none 0 0, uI 1, uI 63, uI 1, uI 0, uI 0, uI (-1), uI (-1), uI 0, uT [], .map (some 8)] 9 BIG true 26], uS 10 1 4, [.row [uI 5, uI 1, .bool true] 10 BIG false 3]⟩
noncomputable def call13 : Call' := cK [259, 135, 220, 299, 343] []
theorem cs13 : CallSound Tryz.prog call13 := cS (tab_sound tab_end)
theorem ok13 : EntOk Tryz.prog 185 e13 := runM_ok Fits cs13 (n := 4000) kR kR kR
def e17 : Ent := ⟨[.pointer (some ⟨7, 0, none⟩)], [o1, o2, o3, o4, o16, .row [] 5 BIG true 0, .map [⟨.agg ⟨[uI 5, uI 1, .bool false]⟩, .bool true, 0⟩, ⟨.agg ⟨[uI 5, uI 0, .bool false]⟩, .bool true, 1⟩] 2, .row [uS 0 2 5, uS 1 1 2, uS 2 1 2, .slice none 0 0, .slice none 0 0, .slice none 0 0, .slice none 0 0, uS 3 1 2, uI 0, uI 0, uI 0, uS 4 1 5, .slice none 0 0, uS 5 0 0, .slice none 0 0, .slice none 0 0, uI 2, uI 62, uI 2, uI 0, uI 0, uI (-1), uI 0, uI 0, uT [], .map (some 6)] 7 BIG true 26], uS 8 2 5, [.row [uI 5, uI 0, .bool true, uI 5, uI 1, .bool true] 8 BIG false 6]⟩
noncomputable def call17 : Call' := cK [259, 135, 220, 299, 343, 260] []
theorem cs17 : CallSound Tryz.prog call17 := cS (tab_sound tab_end)
theorem ok17 : EntOk Tryz.prog 185 e17 := runM_ok Fits cs17 (n := 4000) kR kR kR
end Go.Proofs.YtfgmplbclpadbaaGreatDoor
