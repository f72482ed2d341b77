/-
  Steps of the proof.
-/
import Derived.Test.YtlhlkjhjoalhoaaGreatDoorCE2
set_option linter.unusedSimpArgs false
set_option linter.unusedVariables false
namespace Go.Proofs.YtlhlkjhjoalhoaaGreatDoor
open Go Go.AM
set_option maxRecDepth 100000
set_option maxHeartbeats 0
def e180 : Ent := ⟨[.int .i64 4, .slice (some ⟨0, 0, none⟩) 2 2], [.row [.string ⟨⟨[34, 59, 144, 196, 59, 231, 69, 104, 178, 140, 176, 28, 89, 1, 227, 3]⟩⟩, .string ⟨⟨[137, 10, 75, 236, 25, 79, 96, 243, 133, 194, 188, 14, 253, 195, 106, 181]⟩⟩] 0 BIG true 2], .agg ⟨[.int .u8 185, .int .u8 197, .int .u8 171, .int .u8 99, .int .u8 85, .int .u8 118, .int .u8 237, .int .u8 133, .int .u8 66, .int .u8 22, .int .u8 136, .int .u8 111, .int .u8 30, .int .u8 250, .int .u8 237, .int .u8 153]⟩, []⟩
noncomputable def call180 : Call' := callK Tryz.prog [277, 278, 279, 280] (tabOf [(287, entC [e66]), (315, entS spec_compress)]) 3000
theorem cs180 : CallSound Tryz.prog call180 := callK_sound Fits pkS (tab_sound (tab_cons (con_ents Tryz.func287 rfl (ents_cons ok66 ents_nil)) (tab_cons con_compress tab_end))) 3000
theorem ok180 : EntOk Tryz.prog 222 e180 := runE_ok Fits pkS cs180 (n := 4000) (by kernel_rfl) (by kernel_rfl) (by kernel_rfl)
def e182 : Ent := ⟨[.int .i64 3, .slice (some ⟨0, 0, none⟩) 2 2], [.row [.string ⟨⟨[48, 48, 48, 54]⟩⟩, .string ⟨⟨[135, 145, 250, 66, 157, 83, 24, 56, 108, 63, 180, 94, 156, 206, 120, 18]⟩⟩] 0 BIG true 2], .agg ⟨[.int .u8 162, .int .u8 136, .int .u8 118, .int .u8 116, .int .u8 19, .int .u8 173, .int .u8 104, .int .u8 136, .int .u8 20, .int .u8 28, .int .u8 202, .int .u8 232, .int .u8 224, .int .u8 239, .int .u8 88, .int .u8 119]⟩, []⟩
noncomputable def call182 : Call' := callK Tryz.prog [277, 278, 279, 280] (tabOf [(287, entC [e65, e66]), (315, entS spec_compress)]) 3000
theorem cs182 : CallSound Tryz.prog call182 := callK_sound Fits pkS (tab_sound (tab_cons (con_ents Tryz.func287 rfl (ents_cons ok65 (ents_cons ok66 ents_nil))) (tab_cons con_compress tab_end))) 3000
theorem ok182 : EntOk Tryz.prog 222 e182 := runE_ok Fits pkS cs182 (n := 4000) (by kernel_rfl) (by kernel_rfl) (by kernel_rfl)
def e184 : Ent := ⟨[.int .i64 3, .slice (some ⟨0, 0, none⟩) 2 2], [.row [.string ⟨⟨[48, 48, 48, 55]⟩⟩, .string ⟨⟨[117, 234, 21, 7, 74, 178, 76, 86, 15, 86, 140, 158, 244, 140, 247, 161]⟩⟩] 0 BIG true 2], .agg ⟨[.int .u8 235, .int .u8 117, .int .u8 122, .int .u8 40, .int .u8 242, .int .u8 10, .int .u8 48, .int .u8 80, .int .u8 187, .int .u8 249, .int .u8 106, .int .u8 62, .int .u8 210, .int .u8 161, .int .u8 216, .int .u8 255]⟩, []⟩
noncomputable def call184 : Call' := callK Tryz.prog [277, 278, 279, 280] (tabOf [(287, entC [e65, e66]), (315, entS spec_compress)]) 3000
theorem cs184 : CallSound Tryz.prog call184 := callK_sound Fits pkS (tab_sound (tab_cons (con_ents Tryz.func287 rfl (ents_cons ok65 (ents_cons ok66 ents_nil))) (tab_cons con_compress tab_end))) 3000
theorem ok184 : EntOk Tryz.prog 222 e184 := runE_ok Fits pkS cs184 (n := 4000) (by kernel_rfl) (by kernel_rfl) (by kernel_rfl)
def e186 : Ent := ⟨[.int .i64 4, .slice (some ⟨0, 0, none⟩) 2 2], [.row [.string ⟨⟨[162, 136, 118, 116, 19, 173, 104, 136, 20, 28, 202, 232, 224, 239, 88, 119]⟩⟩, .string ⟨⟨[235, 117, 122, 40, 242, 10, 48, 80, 187, 249, 106, 62, 210, 161, 216, 255]⟩⟩] 0 BIG true 2], .agg ⟨[.int .u8 84, .int .u8 105, .int .u8 6, .int .u8 221, .int .u8 190, .int .u8 186, .int .u8 204, .int .u8 204, .int .u8 3, .int .u8 145, .int .u8 151, .int .u8 13, .int .u8 44, .int .u8 83, .int .u8 117, .int .u8 65]⟩, []⟩
noncomputable def call186 : Call' := callK Tryz.prog [277, 278, 279, 280] (tabOf [(287, entC [e66]), (315, entS spec_compress)]) 3000
theorem cs186 : CallSound Tryz.prog call186 := callK_sound Fits pkS (tab_sound (tab_cons (con_ents Tryz.func287 rfl (ents_cons ok66 ents_nil)) (tab_cons con_compress tab_end))) 3000
theorem ok186 : EntOk Tryz.prog 222 e186 := runE_ok Fits pkS cs186 (n := 4000) (by kernel_rfl) (by kernel_rfl) (by kernel_rfl)
def e188 : Ent := ⟨[.int .i64 4, .slice (some ⟨0, 0, none⟩) 2 2], [.row [.string ⟨⟨[185, 197, 171, 99, 85, 118, 237, 133, 66, 22, 136, 111, 30, 250, 237, 153]⟩⟩, .string ⟨⟨[84, 105, 6, 221, 190, 186, 204, 204, 3, 145, 151, 13, 44, 83, 117, 65]⟩⟩] 0 BIG true 2], .agg ⟨[.int .u8 111, .int .u8 2, .int .u8 178, .int .u8 9, .int .u8 81, .int .u8 252, .int .u8 62, .int .u8 9, .int .u8 154, .int .u8 11, .int .u8 185, .int .u8 29, .int .u8 153, .int .u8 253, .int .u8 99, .int .u8 229]⟩, []⟩
noncomputable def call188 : Call' := callK Tryz.prog [277, 278, 279, 280] (tabOf [(287, entC [e66]), (315, entS spec_compress)]) 3000
theorem cs188 : CallSound Tryz.prog call188 := callK_sound Fits pkS (tab_sound (tab_cons (con_ents Tryz.func287 rfl (ents_cons ok66 ents_nil)) (tab_cons con_compress tab_end))) 3000
theorem ok188 : EntOk Tryz.prog 222 e188 := runE_ok Fits pkS cs188 (n := 4000) (by kernel_rfl) (by kernel_rfl) (by kernel_rfl)
def e190 : Ent := ⟨[.int .i64 4, .slice (some ⟨0, 0, none⟩) 2 2], [.row [.string ⟨⟨[9, 215, 140, 132, 131, 137, 8, 187, 112, 19, 132, 26, 140, 131, 223, 220]⟩⟩, .string ⟨⟨[111, 2, 178, 9, 81, 252, 62, 9, 154, 11, 185, 29, 153, 253, 99, 229]⟩⟩] 0 BIG true 2], .agg ⟨[.int .u8 146, .int .u8 109, .int .u8 11, .int .u8 81, .int .u8 206, .int .u8 197, .int .u8 77, .int .u8 73, .int .u8 243, .int .u8 1, .int .u8 127, .int .u8 64, .int .u8 4, .int .u8 94, .int .u8 184, .int .u8 47]⟩, []⟩
noncomputable def call190 : Call' := callK Tryz.prog [277, 278, 279, 280] (tabOf [(287, entC [e66]), (315, entS spec_compress)]) 3000
theorem cs190 : CallSound Tryz.prog call190 := callK_sound Fits pkS (tab_sound (tab_cons (con_ents Tryz.func287 rfl (ents_cons ok66 ents_nil)) (tab_cons con_compress tab_end))) 3000
theorem ok190 : EntOk Tryz.prog 222 e190 := runE_ok Fits pkS cs190 (n := 4000) (by kernel_rfl) (by kernel_rfl) (by kernel_rfl)
def e193 : Ent := ⟨[.int .i64 4, .slice (some ⟨0, 0, none⟩) 2 2], [.row [.string ⟨⟨[129, 8]⟩⟩, .string ⟨⟨[146, 109, 11, 81, 206, 197, 77, 73, 243, 1, 127, 64, 4, 94, 184, 47]⟩⟩] 0 BIG true 2], .agg ⟨[.int .u8 134, .int .u8 77, .int .u8 224, .int .u8 128, .int .u8 206, .int .u8 109, .int .u8 142, .int .u8 201, .int .u8 79, .int .u8 210, .int .u8 78, .int .u8 250, .int .u8 33, .int .u8 21, .int .u8 62, .int .u8 215]⟩, []⟩
noncomputable def call193 : Call' := callK Tryz.prog [277, 278, 279, 280] (tabOf [(287, entC [e34, e66]), (315, entS spec_compress)]) 3000
theorem cs193 : CallSound Tryz.prog call193 := callK_sound Fits pkS (tab_sound (tab_cons (con_ents Tryz.func287 rfl (ents_cons ok34 (ents_cons ok66 ents_nil))) (tab_cons con_compress tab_end))) 3000
theorem ok193 : EntOk Tryz.prog 222 e193 := runE_ok Fits pkS cs193 (n := 4000) (by kernel_rfl) (by kernel_rfl) (by kernel_rfl)
def e200 : Ent := ⟨[.int .i64 6, .slice (some ⟨0, 0, none⟩) 1 1], [.row [.string ⟨⟨[129, 10, 129, 2, 128, 129, 3, 129, 61, 129, 3, 128, 128, 129, 1, 127, 128, 129, 1, 128, 129, 3, 128, 128, 129, 1, 129, 1, 129, 6, 128, 129, 3, 128, 128, 129, 1, 129, 1, 129, 2, 128, 129, 2, 129, 1, 129, 2, 128, 128]⟩⟩] 0 BIG true 1], .agg ⟨[.int .u8 32, .int .u8 72, .int .u8 186, .int .u8 241, .int .u8 134, .int .u8 136, .int .u8 117, .int .u8 204, .int .u8 89, .int .u8 130, .int .u8 236, .int .u8 82, .int .u8 40, .int .u8 180, .int .u8 98, .int .u8 131]⟩, []⟩
noncomputable def call200 : Call' := callK Tryz.prog [277, 278, 279, 280] (tabOf [(287, entC [e198]), (315, entS spec_compress)]) 3000
theorem cs200 : CallSound Tryz.prog call200 := callK_sound Fits pkS (tab_sound (tab_cons (con_ents Tryz.func287 rfl (ents_cons ok198 ents_nil)) (tab_cons con_compress tab_end))) 3000
theorem ok200 : EntOk Tryz.prog 222 e200 := runE_ok Fits pkS cs200 (n := 4000) (by kernel_rfl) (by kernel_rfl) (by kernel_rfl)
def e203 : Ent := ⟨[.int .i64 6, .slice (some ⟨0, 0, none⟩) 1 1], [.row [.string ⟨⟨[129, 10, 129, 2, 128, 129, 4, 129, 60, 129, 4, 128, 128, 127, 127, 128, 129, 1, 128, 129, 3, 128, 128, 129, 1, 129, 1, 129, 6, 128, 129, 3, 128, 129, 1, 128, 128, 129, 2, 129, 1, 129, 2, 128, 128]⟩⟩] 0 BIG true 1], .agg ⟨[.int .u8 66, .int .u8 217, .int .u8 45, .int .u8 187, .int .u8 63, .int .u8 197, .int .u8 155, .int .u8 137, .int .u8 153, .int .u8 65, .int .u8 10, .int .u8 244, .int .u8 113, .int .u8 58, .int .u8 93, .int .u8 183]⟩, []⟩
noncomputable def call203 : Call' := callK Tryz.prog [277, 278, 279, 280] (tabOf [(287, entC [e170]), (315, entS spec_compress)]) 3000
theorem cs203 : CallSound Tryz.prog call203 := callK_sound Fits pkS (tab_sound (tab_cons (con_ents Tryz.func287 rfl (ents_cons ok170 ents_nil)) (tab_cons con_compress tab_end))) 3000
theorem ok203 : EntOk Tryz.prog 222 e203 := runE_ok Fits pkS cs203 (n := 4000) (by kernel_rfl) (by kernel_rfl) (by kernel_rfl)
def e208 : Ent := ⟨[.int .i64 6, .slice (some ⟨0, 0, none⟩) 1 1], [.row [.string ⟨⟨[129, 10, 129, 2, 128, 129, 5, 129, 59, 129, 5, 128, 128, 127, 128, 128, 129, 1, 128, 129, 3, 128, 129, 1, 128, 128, 129, 3, 128, 129, 1, 128, 128, 129, 2, 129, 1, 129, 2, 128, 128]⟩⟩] 0 BIG true 1], .agg ⟨[.int .u8 106, .int .u8 210, .int .u8 65, .int .u8 162, .int .u8 24, .int .u8 47, .int .u8 91, .int .u8 209, .int .u8 22, .int .u8 57, .int .u8 97, .int .u8 165, .int .u8 233, .int .u8 116, .int .u8 101, .int .u8 59]⟩, []⟩
noncomputable def call208 : Call' := callK Tryz.prog [277, 278, 279, 280] (tabOf [(287, entC [e206]), (315, entS spec_compress)]) 3000
theorem cs208 : CallSound Tryz.prog call208 := callK_sound Fits pkS (tab_sound (tab_cons (con_ents Tryz.func287 rfl (ents_cons ok206 ents_nil)) (tab_cons con_compress tab_end))) 3000
theorem ok208 : EntOk Tryz.prog 222 e208 := runE_ok Fits pkS cs208 (n := 4000) (by kernel_rfl) (by kernel_rfl) (by kernel_rfl)
def e212 : Ent := ⟨[.int .i64 3, .slice (some ⟨0, 0, none⟩) 2 2], [.row [.string ⟨⟨[48, 48, 48, 54]⟩⟩, .string ⟨⟨[32, 72, 186, 241, 134, 136, 117, 204, 89, 130, 236, 82, 40, 180, 98, 131]⟩⟩] 0 BIG true 2], .agg ⟨[.int .u8 55, .int .u8 228, .int .u8 75, .int .u8 220, .int .u8 64, .int .u8 187, .int .u8 224, .int .u8 33, .int .u8 32, .int .u8 123, .int .u8 100, .int .u8 202, .int .u8 169, .int .u8 50, .int .u8 68, .int .u8 43]⟩, []⟩
noncomputable def call212 : Call' := callK Tryz.prog [277, 278, 279, 280] (tabOf [(287, entC [e65, e66]), (315, entS spec_compress)]) 3000
theorem cs212 : CallSound Tryz.prog call212 := callK_sound Fits pkS (tab_sound (tab_cons (con_ents Tryz.func287 rfl (ents_cons ok65 (ents_cons ok66 ents_nil))) (tab_cons con_compress tab_end))) 3000
theorem ok212 : EntOk Tryz.prog 222 e212 := runE_ok Fits pkS cs212 (n := 4000) (by kernel_rfl) (by kernel_rfl) (by kernel_rfl)
end Go.Proofs.YtlhlkjhjoalhoaaGreatDoor
