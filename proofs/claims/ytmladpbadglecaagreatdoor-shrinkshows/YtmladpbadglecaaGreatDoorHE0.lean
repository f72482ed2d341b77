/-
  Steps of the proof.
-/
import Derived.Test.YtmladpbadglecaaGreatDoorHHe
set_option linter.unusedSimpArgs false
set_option linter.unusedVariables false
namespace Go.Proofs.YtmladpbadglecaaGreatDoor
open Go Go.AM
set_option maxRecDepth 100000
set_option maxHeartbeats 0
def e17 : Ent := ⟨[.slice none 0 0], [], .slice none 0 0, []⟩
noncomputable def call17 : Call' := cK [28] []
theorem cs17 : CallSound Tryz.prog call17 := cS (tab_sound tab_end)
theorem ok17 : EntOk Tryz.prog 13 e17 := rE cs17
def e77 : Ent := ⟨[uS 0 1 2], [o58], uS 1 1 2, [.row [uI 1] 1 BIG false 1]⟩
noncomputable def call77 : Call' := cK [28] []
theorem cs77 : CallSound Tryz.prog call77 := cS (tab_sound tab_end)
theorem ok77 : EntOk Tryz.prog 13 e77 := rE cs77
def e111 : Ent := ⟨[uS 0 1 2], [o90], uS 1 1 2, [.row [uI 2] 1 BIG false 1]⟩
noncomputable def call111 : Call' := cK [28] []
theorem cs111 : CallSound Tryz.prog call111 := cS (tab_sound tab_end)
theorem ok111 : EntOk Tryz.prog 13 e111 := rE cs111
def e140 : Ent := ⟨[uS 0 2 3], [o96], uS 1 2 3, [.row [uI 0, uI 1] 1 BIG false 2]⟩
noncomputable def call140 : Call' := cK [28] []
theorem cs140 : CallSound Tryz.prog call140 := cS (tab_sound tab_end)
theorem ok140 : EntOk Tryz.prog 13 e140 := rE cs140
def e162 : Ent := ⟨[uS 0 2 3], [o99], uS 1 2 3, [o100]⟩
noncomputable def call162 : Call' := cK [28] []
theorem cs162 : CallSound Tryz.prog call162 := cS (tab_sound tab_end)
theorem ok162 : EntOk Tryz.prog 13 e162 := rE cs162
def e182 : Ent := ⟨[uS 0 2 3], [o107], uS 1 2 3, [o108]⟩
noncomputable def call182 : Call' := cK [28] []
theorem cs182 : CallSound Tryz.prog call182 := cS (tab_sound tab_end)
theorem ok182 : EntOk Tryz.prog 13 e182 := rE cs182
def e200 : Ent := ⟨[uS 0 2 2], [o107], uS 1 2 3, [o108]⟩
noncomputable def call200 : Call' := cK [28] []
theorem cs200 : CallSound Tryz.prog call200 := cS (tab_sound tab_end)
theorem ok200 : EntOk Tryz.prog 13 e200 := rE cs200
def e203 : Ent := ⟨[uS 0 2 3], [o93], uS 1 1 2, [.row [uI 2] 1 BIG false 1]⟩
noncomputable def call203 : Call' := cK [28] []
theorem cs203 : CallSound Tryz.prog call203 := cS (tab_sound tab_end)
theorem ok203 : EntOk Tryz.prog 13 e203 := rE cs203
def e224 : Ent := ⟨[uS 0 2 2], [o99], uS 1 2 3, [o100]⟩
noncomputable def call224 : Call' := cK [28] []
theorem cs224 : CallSound Tryz.prog call224 := cS (tab_sound tab_end)
theorem ok224 : EntOk Tryz.prog 13 e224 := rE cs224
def e0 : Ent := ⟨[uT [116, 101, 115, 116, 32, 116, 32, 123, 32, 100, 114, 97, 119, 32, 36, 97, 32, 51, 59, 32, 100, 114, 97, 119, 32, 36, 98, 32, 50, 59, 32, 99, 104, 101, 99, 107, 32, 36, 97, 32, 42, 32, 36, 98, 32, 60, 32, 50, 59, 32, 125]], [], .tuple ⟨[.agg ⟨[uI 6, uT [116], uI 0, uS 0 1 1]⟩, uI 0, uI 0]⟩, [.row [uI 8, uT [], uI 0, uS 1 3 7] 0 BIG false 4, .row [uI 19, uT [97], uI 3, .slice none 0 0, uI 19, uT [98], uI 2, .slice none 0 0, uI 24, uT [], uI 0, uS 2 1 1] 1 BIG false 12, .row [uI 26, uT [], uI 0, uS 3 2 2] 2 BIG false 4, .row [uI 31, uT [], uI 0, uS 4 2 2, uI 32, uT [], uI 2, .slice none 0 0] 3 BIG false 8, .row [uI 33, uT [97], uI 0, .slice none 0 0, uI 33, uT [98], uI 0, .slice none 0 0] 4 BIG false 8]⟩
noncomputable def call0 : Call' := cK [98, 141, 195, 196, 198, 254, 197, 199, 255, 200, 256, 99, 142, 104, 144, 145, 201, 257, 133, 146, 147, 202, 259, 260, 303, 326, 149, 203, 262, 258, 301, 322, 323, 344, 302, 324, 325, 100, 150, 151, 204, 267, 268, 205, 272, 138, 192, 206, 264, 309, 266, 269, 152, 207, 273, 125, 186, 235, 288, 310, 330, 347] []
theorem cs0 : CallSound Tryz.prog call0 := cS (tab_sound tab_end)
theorem ok0 : EntOk Tryz.prog 62 e0 := rE cs0
def e3 : Ent := ⟨[.agg ⟨[uS 0 9 12, uS 1 1 2, uS 2 1 2, .slice none 0 0, .slice none 0 0, .slice none 0 0, .slice none 0 0, uS 3 1 2]⟩], [o2, o3, o4, o5], .tuple ⟨[uI 9, uI 0]⟩, []⟩
noncomputable def call3 : Call' := cK [109, 165, 166, 74, 110, 111] []
theorem cs3 : CallSound Tryz.prog call3 := cS (tab_sound tab_end)
theorem ok3 : EntOk Tryz.prog 71 e3 := rE cs3
def e46 : Ent := ⟨[uS 0 4 6], [o48], uI 0, []⟩
noncomputable def call46 : Call' := cK [236, 292, 237] []
theorem cs46 : CallSound Tryz.prog call46 := cS (tab_sound tab_end)
theorem ok46 : EntOk Tryz.prog 187 e46 := rE cs46
def e86 : Ent := ⟨[uS 0 4 6], [o82], uI 0, []⟩
noncomputable def call86 : Call' := cK [236, 292, 237] []
theorem cs86 : CallSound Tryz.prog call86 := cS (tab_sound tab_end)
theorem ok86 : EntOk Tryz.prog 187 e86 := rE cs86
def e119 : Ent := ⟨[uS 0 4 6], [o94], uI 0, []⟩
noncomputable def call119 : Call' := cK [236, 292, 237] []
theorem cs119 : CallSound Tryz.prog call119 := cS (tab_sound tab_end)
theorem ok119 : EntOk Tryz.prog 187 e119 := rE cs119
def e145 : Ent := ⟨[uS 0 4 6], [o97], uI 0, []⟩
noncomputable def call145 : Call' := cK [236, 292, 237] []
theorem cs145 : CallSound Tryz.prog call145 := cS (tab_sound tab_end)
theorem ok145 : EntOk Tryz.prog 187 e145 := rE cs145
def e168 : Ent := ⟨[uS 0 4 6], [o103], uI 0, []⟩
noncomputable def call168 : Call' := cK [236, 292, 237] []
theorem cs168 : CallSound Tryz.prog call168 := cS (tab_sound tab_end)
theorem ok168 : EntOk Tryz.prog 187 e168 := rE cs168
def e189 : Ent := ⟨[uS 0 3 5], [o118], uI 0, []⟩
noncomputable def call189 : Call' := cK [236, 292, 237] []
theorem cs189 : CallSound Tryz.prog call189 := cS (tab_sound tab_end)
theorem ok189 : EntOk Tryz.prog 187 e189 := rE cs189
def e7 : Ent := ⟨[.pointer (some ⟨9, 0, none⟩)], [o2, o3, o4, o5, o6, o10, o11, o9, o12, o13], uS 10 1 4, [o14]⟩
noncomputable def call7 : Call' := cK [281, 35, 57, 312, 332] []
theorem cs7 : CallSound Tryz.prog call7 := cS (tab_sound tab_end)
theorem ok7 : EntOk Tryz.prog 223 e7 := runM_ok Fits cs7 (n := 4000) kR kR kR
def e11 : Ent := ⟨[.pointer (some ⟨10, 0, none⟩)], [o2, o3, o4, o5, o6, o20, o21, o22, o23, o12, o24], uS 11 1 4, [o25]⟩
noncomputable def call11 : Call' := cK [281, 35, 57, 312, 332] []
theorem cs11 : CallSound Tryz.prog call11 := cS (tab_sound tab_end)
theorem ok11 : EntOk Tryz.prog 223 e11 := runM_ok Fits cs11 (n := 4000) kR kR kR
end Go.Proofs.YtmladpbadglecaaGreatDoor
namespace Go.Proofs.YtmladpbadglecaaGreatDoor
open Go Go.AM
set_option maxRecDepth 100000
set_option maxHeartbeats 0
def e15 : Ent := ⟨[.pointer (some ⟨7, 0, none⟩)], [o2, o3, o4, o5, o32, .row [] 5 BIG true 0, .map [⟨.agg ⟨[uI 5, uI 1, .bool false]⟩, .bool true, 0⟩, ⟨.agg ⟨[uI 5, uI 0, .bool false]⟩, .bool true, 1⟩] 2, .row [uS 0 9 12, uS 1 1 2, uS 2 1 2, .slice none 0 0, .slice none 0 0, .slice none 0 0, .slice none 0 0, uS 3 1 2, uI 0, uI 0, uI 0, uS 4 1 5, .slice none 0 0, uS 5 0 0, .slice none 0 0, .slice none 0 0, uI 3, uI 61, uI 3, uI 0, uI 0, uI (-1), uI 0, uI 0, uT [], .map (some 6)] 7 BIG true 26], uS 8 2 5, [.row [uI 5, uI 0, .bool true, uI 5, uI 1, .bool true] 8 BIG false 6]⟩
noncomputable def call15 : Call' := cK [281, 35, 57, 312, 332, 282] []
theorem cs15 : CallSound Tryz.prog call15 := cS (tab_sound tab_end)
theorem ok15 : EntOk Tryz.prog 223 e15 := runM_ok Fits cs15 (n := 4000) kR kR kR
def e68 : Ent := ⟨[.pointer (some ⟨9, 0, none⟩)], [o2, o3, o4, o5, o56, o10, o11, o9, o12, o13], uS 10 1 4, [o14]⟩
noncomputable def call68 : Call' := cK [281, 35, 57, 312, 332] []
theorem cs68 : CallSound Tryz.prog call68 := cS (tab_sound tab_end)
theorem ok68 : EntOk Tryz.prog 223 e68 := runM_ok Fits cs68 (n := 4000) kR kR kR
def e72 : Ent := ⟨[.pointer (some ⟨10, 0, none⟩)], [o2, o3, o4, o5, o56, o20, o21, o22, o23, o12, o24], uS 11 1 4, [o25]⟩
noncomputable def call72 : Call' := cK [281, 35, 57, 312, 332] []
theorem cs72 : CallSound Tryz.prog call72 := cS (tab_sound tab_end)
theorem ok72 : EntOk Tryz.prog 223 e72 := runM_ok Fits cs72 (n := 4000) kR kR kR
def e102 : Ent := ⟨[.pointer (some ⟨9, 0, none⟩)], [o2, o3, o4, o5, o88, o10, o11, o9, o12, o13], uS 10 1 4, [o14]⟩
noncomputable def call102 : Call' := cK [281, 35, 57, 312, 332] []
theorem cs102 : CallSound Tryz.prog call102 := cS (tab_sound tab_end)
theorem ok102 : EntOk Tryz.prog 223 e102 := runM_ok Fits cs102 (n := 4000) kR kR kR
def e106 : Ent := ⟨[.pointer (some ⟨10, 0, none⟩)], [o2, o3, o4, o5, o88, o20, o21, o22, o23, o12, o24], uS 11 1 4, [o25]⟩
noncomputable def call106 : Call' := cK [281, 35, 57, 312, 332] []
theorem cs106 : CallSound Tryz.prog call106 := cS (tab_sound tab_end)
theorem ok106 : EntOk Tryz.prog 223 e106 := runM_ok Fits cs106 (n := 4000) kR kR kR
def e135 : Ent := ⟨[.pointer (some ⟨10, 0, none⟩)], [o2, o3, o4, o5, o95, o20, o21, o22, o23, o12, o24], uS 11 1 4, [o25]⟩
noncomputable def call135 : Call' := cK [281, 35, 57, 312, 332] []
theorem cs135 : CallSound Tryz.prog call135 := cS (tab_sound tab_end)
theorem ok135 : EntOk Tryz.prog 223 e135 := runM_ok Fits cs135 (n := 4000) kR kR kR
def e157 : Ent := ⟨[.pointer (some ⟨10, 0, none⟩)], [o2, o3, o4, o5, o98, o20, o21, o22, o23, o12, o24], uS 11 1 4, [o25]⟩
noncomputable def call157 : Call' := cK [281, 35, 57, 312, 332] []
theorem cs157 : CallSound Tryz.prog call157 := cS (tab_sound tab_end)
theorem ok157 : EntOk Tryz.prog 223 e157 := runM_ok Fits cs157 (n := 4000) kR kR kR
def e180 : Ent := ⟨[.pointer (some ⟨10, 0, none⟩)], [o2, o3, o4, o5, o105, o20, o106, o22, o23, o12, .row [uS 0 9 12, uS 1 1 2, uS 2 1 2, .slice none 0 0, .slice none 0 0, .slice none 0 0, .slice none 0 0, uS 3 1 2, uI 0, uI 0, uI 0, uS 7 1 5, .slice none 0 0, uS 8 0 0, .slice none 0 0, .slice none 0 0, uI 2, uI 62, uI 2, uI 0, uI 0, uI (-1), uI 1, uI 0, uT [116], .map (some 9)] 10 BIG true 26], uS 11 1 4, [o25]⟩
noncomputable def call180 : Call' := cK [281, 35, 57, 312, 332] []
theorem cs180 : CallSound Tryz.prog call180 := cS (tab_sound tab_end)
theorem ok180 : EntOk Tryz.prog 223 e180 := runM_ok Fits cs180 (n := 4000) kR kR kR
def e20 : Ent := ⟨[uI 10], [], uS 0 2 3, [.row [uB 129, uB 10] 0 BIG false 2]⟩
noncomputable def call20 : Call' := cK [] []
theorem cs20 : CallSound Tryz.prog call20 := cS (tab_sound tab_end)
theorem ok20 : EntOk Tryz.prog 238 e20 := rE cs20
def e21 : Ent := ⟨[uI 1], [], uS 0 2 3, [.row [uB 129, uB 1] 0 BIG false 2]⟩
noncomputable def call21 : Call' := cK [] []
theorem cs21 : CallSound Tryz.prog call21 := cS (tab_sound tab_end)
theorem ok21 : EntOk Tryz.prog 238 e21 := rE cs21
def e22 : Ent := ⟨[uI 0], [], uS 0 1 1, [.row [uB 128] 0 BIG false 1]⟩
noncomputable def call22 : Call' := cK [] []
theorem cs22 : CallSound Tryz.prog call22 := cS (tab_sound tab_end)
theorem ok22 : EntOk Tryz.prog 238 e22 := rE cs22
def e23 : Ent := ⟨[uI 64], [], uS 0 2 3, [.row [uB 129, uB 64] 0 BIG false 2]⟩
noncomputable def call23 : Call' := cK [] []
theorem cs23 : CallSound Tryz.prog call23 := cS (tab_sound tab_end)
theorem ok23 : EntOk Tryz.prog 238 e23 := rE cs23
def e24 : Ent := ⟨[uI (-1)], [], uS 0 1 1, [.row [uB 127] 0 BIG false 1]⟩
noncomputable def call24 : Call' := cK [] []
theorem cs24 : CallSound Tryz.prog call24 := cS (tab_sound tab_end)
theorem ok24 : EntOk Tryz.prog 238 e24 := rE cs24
def e25 : Ent := ⟨[uI 3], [], uS 0 2 3, [.row [uB 129, uB 3] 0 BIG false 2]⟩
noncomputable def call25 : Call' := cK [] []
theorem cs25 : CallSound Tryz.prog call25 := cS (tab_sound tab_end)
theorem ok25 : EntOk Tryz.prog 238 e25 := rE cs25
def e26 : Ent := ⟨[uI 32], [], uS 0 2 3, [.row [uB 129, uB 32] 0 BIG false 2]⟩
noncomputable def call26 : Call' := cK [] []
theorem cs26 : CallSound Tryz.prog call26 := cS (tab_sound tab_end)
theorem ok26 : EntOk Tryz.prog 238 e26 := rE cs26
def e30 : Ent := ⟨[uI 63], [], uS 0 2 3, [.row [uB 129, uB 63] 0 BIG false 2]⟩
noncomputable def call30 : Call' := cK [] []
theorem cs30 : CallSound Tryz.prog call30 := cS (tab_sound tab_end)
theorem ok30 : EntOk Tryz.prog 238 e30 := rE cs30
def e31 : Ent := ⟨[uI 35], [], uS 0 2 3, [.row [uB 129, uB 35] 0 BIG false 2]⟩
noncomputable def call31 : Call' := cK [] []
theorem cs31 : CallSound Tryz.prog call31 := cS (tab_sound tab_end)
theorem ok31 : EntOk Tryz.prog 238 e31 := rE cs31
def e35 : Ent := ⟨[uI 2], [], uS 0 2 3, [.row [uB 129, uB 2] 0 BIG false 2]⟩
noncomputable def call35 : Call' := cK [] []
theorem cs35 : CallSound Tryz.prog call35 := cS (tab_sound tab_end)
theorem ok35 : EntOk Tryz.prog 238 e35 := rE cs35
def e36 : Ent := ⟨[uI 62], [], uS 0 2 3, [.row [uB 129, uB 62] 0 BIG false 2]⟩
noncomputable def call36 : Call' := cK [] []
theorem cs36 : CallSound Tryz.prog call36 := cS (tab_sound tab_end)
theorem ok36 : EntOk Tryz.prog 238 e36 := rE cs36
def e37 : Ent := ⟨[uI 8], [], uS 0 2 3, [.row [uB 129, uB 8] 0 BIG false 2]⟩
noncomputable def call37 : Call' := cK [] []
theorem cs37 : CallSound Tryz.prog call37 := cS (tab_sound tab_end)
theorem ok37 : EntOk Tryz.prog 238 e37 := rE cs37
def e41 : Ent := ⟨[uI 61], [], uS 0 2 3, [.row [uB 129, uB 61] 0 BIG false 2]⟩
noncomputable def call41 : Call' := cK [] []
theorem cs41 : CallSound Tryz.prog call41 := cS (tab_sound tab_end)
theorem ok41 : EntOk Tryz.prog 238 e41 := rE cs41
def e42 : Ent := ⟨[uI 29], [], uS 0 2 3, [.row [uB 129, uB 29] 0 BIG false 2]⟩
noncomputable def call42 : Call' := cK [] []
theorem cs42 : CallSound Tryz.prog call42 := cS (tab_sound tab_end)
theorem ok42 : EntOk Tryz.prog 238 e42 := rE cs42
def e47 : Ent := ⟨[uI 4], [], uS 0 2 3, [.row [uB 129, uB 4] 0 BIG false 2]⟩
noncomputable def call47 : Call' := cK [] []
theorem cs47 : CallSound Tryz.prog call47 := cS (tab_sound tab_end)
theorem ok47 : EntOk Tryz.prog 238 e47 := rE cs47
def e48 : Ent := ⟨[uI 16], [], uS 0 2 3, [.row [uB 129, uB 16] 0 BIG false 2]⟩
noncomputable def call48 : Call' := cK [] []
theorem cs48 : CallSound Tryz.prog call48 := cS (tab_sound tab_end)
theorem ok48 : EntOk Tryz.prog 238 e48 := rE cs48
def e79 : Ent := ⟨[uI 36], [], uS 0 2 3, [.row [uB 129, uB 36] 0 BIG false 2]⟩
noncomputable def call79 : Call' := cK [] []
theorem cs79 : CallSound Tryz.prog call79 := cS (tab_sound tab_end)
theorem ok79 : EntOk Tryz.prog 238 e79 := rE cs79
def e164 : Ent := ⟨[uI 37], [], uS 0 2 3, [.row [uB 129, uB 37] 0 BIG false 2]⟩
noncomputable def call164 : Call' := cK [] []
theorem cs164 : CallSound Tryz.prog call164 := cS (tab_sound tab_end)
theorem ok164 : EntOk Tryz.prog 238 e164 := rE cs164
def e185 : Ent := ⟨[uI 40], [], uS 0 2 3, [.row [uB 129, uB 40] 0 BIG false 2]⟩
noncomputable def call185 : Call' := cK [] []
theorem cs185 : CallSound Tryz.prog call185 := cS (tab_sound tab_end)
theorem ok185 : EntOk Tryz.prog 238 e185 := rE cs185
end Go.Proofs.YtmladpbadglecaaGreatDoor
