/-
  Steps of the proof.
-/
import Derived.Test.YtlhlkjhjoalhoaaGreatDoorCE2
set_option linter.unusedSimpArgs false
set_option linter.unusedVariables false
namespace Go.Proofs.YtlhlkjhjoalhoaaGreatDoor
open Go Go.AM
set_option maxRecDepth 100000
set_option maxHeartbeats 0
def e248 : Ent := ⟨[.int .i64 3, .slice (some ⟨0, 0, none⟩) 2 2], [.row [.string ⟨⟨[48, 48, 48, 51]⟩⟩, .string ⟨⟨[157, 32, 18, 68, 208, 129, 219, 181, 205, 95, 178, 201, 234, 180, 60, 20]⟩⟩] 0 BIG true 2], .agg ⟨[.int .u8 69, .int .u8 80, .int .u8 6, .int .u8 113, .int .u8 56, .int .u8 190, .int .u8 24, .int .u8 32, .int .u8 55, .int .u8 144, .int .u8 81, .int .u8 111, .int .u8 128, .int .u8 214, .int .u8 208, .int .u8 199]⟩, []⟩
noncomputable def call248 : Call' := callK Tryz.prog [277, 278, 279, 280] (tabOf [(287, entC [e65, e66]), (315, entS spec_compress)]) 3000
theorem cs248 : CallSound Tryz.prog call248 := callK_sound Fits pkS (tab_sound (tab_cons (con_ents Tryz.func287 rfl (ents_cons ok65 (ents_cons ok66 ents_nil))) (tab_cons con_compress tab_end))) 3000
theorem ok248 : EntOk Tryz.prog 222 e248 := runE_ok Fits pkS cs248 (n := 4000) (by kernel_rfl) (by kernel_rfl) (by kernel_rfl)
def e250 : Ent := ⟨[.int .i64 4, .slice (some ⟨0, 0, none⟩) 2 2], [.row [.string ⟨⟨[161, 116, 36, 124, 82, 129, 20, 53, 210, 40, 45, 85, 165, 169, 56, 144]⟩⟩, .string ⟨⟨[69, 80, 6, 113, 56, 190, 24, 32, 55, 144, 81, 111, 128, 214, 208, 199]⟩⟩] 0 BIG true 2], .agg ⟨[.int .u8 108, .int .u8 131, .int .u8 86, .int .u8 221, .int .u8 217, .int .u8 212, .int .u8 136, .int .u8 165, .int .u8 186, .int .u8 174, .int .u8 67, .int .u8 137, .int .u8 241, .int .u8 116, .int .u8 36, .int .u8 223]⟩, []⟩
noncomputable def call250 : Call' := callK Tryz.prog [277, 278, 279, 280] (tabOf [(287, entC [e66]), (315, entS spec_compress)]) 3000
theorem cs250 : CallSound Tryz.prog call250 := callK_sound Fits pkS (tab_sound (tab_cons (con_ents Tryz.func287 rfl (ents_cons ok66 ents_nil)) (tab_cons con_compress tab_end))) 3000
theorem ok250 : EntOk Tryz.prog 222 e250 := runE_ok Fits pkS cs250 (n := 4000) (by kernel_rfl) (by kernel_rfl) (by kernel_rfl)
def e252 : Ent := ⟨[.int .i64 4, .slice (some ⟨0, 0, none⟩) 2 2], [.row [.string ⟨⟨[178, 27, 11, 253, 115, 36, 6, 210, 89, 104, 200, 128, 118, 26, 127, 62]⟩⟩, .string ⟨⟨[108, 131, 86, 221, 217, 212, 136, 165, 186, 174, 67, 137, 241, 116, 36, 223]⟩⟩] 0 BIG true 2], .agg ⟨[.int .u8 167, .int .u8 246, .int .u8 151, .int .u8 92, .int .u8 244, .int .u8 159, .int .u8 198, .int .u8 77, .int .u8 68, .int .u8 5, .int .u8 29, .int .u8 188, .int .u8 207, .int .u8 251, .int .u8 18, .int .u8 235]⟩, []⟩
noncomputable def call252 : Call' := callK Tryz.prog [277, 278, 279, 280] (tabOf [(287, entC [e66]), (315, entS spec_compress)]) 3000
theorem cs252 : CallSound Tryz.prog call252 := callK_sound Fits pkS (tab_sound (tab_cons (con_ents Tryz.func287 rfl (ents_cons ok66 ents_nil)) (tab_cons con_compress tab_end))) 3000
theorem ok252 : EntOk Tryz.prog 222 e252 := runE_ok Fits pkS cs252 (n := 4000) (by kernel_rfl) (by kernel_rfl) (by kernel_rfl)
def e254 : Ent := ⟨[.int .i64 3, .slice (some ⟨0, 0, none⟩) 2 2], [.row [.string ⟨⟨[48, 48, 48, 52]⟩⟩, .string ⟨⟨[9, 172, 157, 145, 224, 219, 255, 237, 243, 93, 126, 30, 162, 16, 208, 176]⟩⟩] 0 BIG true 2], .agg ⟨[.int .u8 158, .int .u8 127, .int .u8 143, .int .u8 54, .int .u8 118, .int .u8 242, .int .u8 44, .int .u8 72, .int .u8 237, .int .u8 160, .int .u8 155, .int .u8 233, .int .u8 161, .int .u8 240, .int .u8 78, .int .u8 220]⟩, []⟩
noncomputable def call254 : Call' := callK Tryz.prog [277, 278, 279, 280] (tabOf [(287, entC [e65, e66]), (315, entS spec_compress)]) 3000
theorem cs254 : CallSound Tryz.prog call254 := callK_sound Fits pkS (tab_sound (tab_cons (con_ents Tryz.func287 rfl (ents_cons ok65 (ents_cons ok66 ents_nil))) (tab_cons con_compress tab_end))) 3000
theorem ok254 : EntOk Tryz.prog 222 e254 := runE_ok Fits pkS cs254 (n := 4000) (by kernel_rfl) (by kernel_rfl) (by kernel_rfl)
def e256 : Ent := ⟨[.int .i64 4, .slice (some ⟨0, 0, none⟩) 2 2], [.row [.string ⟨⟨[158, 127, 143, 54, 118, 242, 44, 72, 237, 160, 155, 233, 161, 240, 78, 220]⟩⟩, .string ⟨⟨[137, 10, 75, 236, 25, 79, 96, 243, 133, 194, 188, 14, 253, 195, 106, 181]⟩⟩] 0 BIG true 2], .agg ⟨[.int .u8 51, .int .u8 225, .int .u8 221, .int .u8 145, .int .u8 117, .int .u8 117, .int .u8 253, .int .u8 52, .int .u8 202, .int .u8 116, .int .u8 120, .int .u8 77, .int .u8 117, .int .u8 102, .int .u8 16, .int .u8 231]⟩, []⟩
noncomputable def call256 : Call' := callK Tryz.prog [277, 278, 279, 280] (tabOf [(287, entC [e66]), (315, entS spec_compress)]) 3000
theorem cs256 : CallSound Tryz.prog call256 := callK_sound Fits pkS (tab_sound (tab_cons (con_ents Tryz.func287 rfl (ents_cons ok66 ents_nil)) (tab_cons con_compress tab_end))) 3000
theorem ok256 : EntOk Tryz.prog 222 e256 := runE_ok Fits pkS cs256 (n := 4000) (by kernel_rfl) (by kernel_rfl) (by kernel_rfl)
def e258 : Ent := ⟨[.int .i64 4, .slice (some ⟨0, 0, none⟩) 2 2], [.row [.string ⟨⟨[51, 225, 221, 145, 117, 117, 253, 52, 202, 116, 120, 77, 117, 102, 16, 231]⟩⟩, .string ⟨⟨[84, 105, 6, 221, 190, 186, 204, 204, 3, 145, 151, 13, 44, 83, 117, 65]⟩⟩] 0 BIG true 2], .agg ⟨[.int .u8 160, .int .u8 241, .int .u8 97, .int .u8 40, .int .u8 196, .int .u8 39, .int .u8 81, .int .u8 76, .int .u8 38, .int .u8 95, .int .u8 185, .int .u8 83, .int .u8 240, .int .u8 156, .int .u8 224, .int .u8 248]⟩, []⟩
noncomputable def call258 : Call' := callK Tryz.prog [277, 278, 279, 280] (tabOf [(287, entC [e66]), (315, entS spec_compress)]) 3000
theorem cs258 : CallSound Tryz.prog call258 := callK_sound Fits pkS (tab_sound (tab_cons (con_ents Tryz.func287 rfl (ents_cons ok66 ents_nil)) (tab_cons con_compress tab_end))) 3000
theorem ok258 : EntOk Tryz.prog 222 e258 := runE_ok Fits pkS cs258 (n := 4000) (by kernel_rfl) (by kernel_rfl) (by kernel_rfl)
def e260 : Ent := ⟨[.int .i64 4, .slice (some ⟨0, 0, none⟩) 2 2], [.row [.string ⟨⟨[167, 246, 151, 92, 244, 159, 198, 77, 68, 5, 29, 188, 207, 251, 18, 235]⟩⟩, .string ⟨⟨[160, 241, 97, 40, 196, 39, 81, 76, 38, 95, 185, 83, 240, 156, 224, 248]⟩⟩] 0 BIG true 2], .agg ⟨[.int .u8 134, .int .u8 82, .int .u8 239, .int .u8 114, .int .u8 28, .int .u8 154, .int .u8 36, .int .u8 105, .int .u8 58, .int .u8 183, .int .u8 149, .int .u8 158, .int .u8 26, .int .u8 120, .int .u8 225, .int .u8 37]⟩, []⟩
noncomputable def call260 : Call' := callK Tryz.prog [277, 278, 279, 280] (tabOf [(287, entC [e66]), (315, entS spec_compress)]) 3000
theorem cs260 : CallSound Tryz.prog call260 := callK_sound Fits pkS (tab_sound (tab_cons (con_ents Tryz.func287 rfl (ents_cons ok66 ents_nil)) (tab_cons con_compress tab_end))) 3000
theorem ok260 : EntOk Tryz.prog 222 e260 := runE_ok Fits pkS cs260 (n := 4000) (by kernel_rfl) (by kernel_rfl) (by kernel_rfl)
def e262 : Ent := ⟨[.int .i64 4, .slice (some ⟨0, 0, none⟩) 2 2], [.row [.string ⟨⟨[129, 8]⟩⟩, .string ⟨⟨[134, 82, 239, 114, 28, 154, 36, 105, 58, 183, 149, 158, 26, 120, 225, 37]⟩⟩] 0 BIG true 2], .agg ⟨[.int .u8 45, .int .u8 20, .int .u8 151, .int .u8 41, .int .u8 185, .int .u8 154, .int .u8 228, .int .u8 236, .int .u8 115, .int .u8 18, .int .u8 3, .int .u8 198, .int .u8 107, .int .u8 77, .int .u8 156, .int .u8 65]⟩, []⟩
noncomputable def call262 : Call' := callK Tryz.prog [277, 278, 279, 280] (tabOf [(287, entC [e34, e66]), (315, entS spec_compress)]) 3000
theorem cs262 : CallSound Tryz.prog call262 := callK_sound Fits pkS (tab_sound (tab_cons (con_ents Tryz.func287 rfl (ents_cons ok34 (ents_cons ok66 ents_nil))) (tab_cons con_compress tab_end))) 3000
theorem ok262 : EntOk Tryz.prog 222 e262 := runE_ok Fits pkS cs262 (n := 4000) (by kernel_rfl) (by kernel_rfl) (by kernel_rfl)
def e271 : Ent := ⟨[.int .i64 6, .slice (some ⟨0, 0, none⟩) 1 1], [.row [.string ⟨⟨[129, 10, 129, 2, 128, 129, 2, 129, 62, 129, 2, 128, 128, 129, 1, 127, 128, 129, 1, 128, 129, 3, 128, 128, 129, 1, 129, 1, 129, 5, 129, 1, 129, 2, 129, 3, 128, 128, 129, 1, 129, 1, 129, 2, 128, 129, 2, 129, 1, 128, 128, 128]⟩⟩] 0 BIG true 1], .agg ⟨[.int .u8 133, .int .u8 202, .int .u8 121, .int .u8 102, .int .u8 30, .int .u8 240, .int .u8 216, .int .u8 246, .int .u8 3, .int .u8 120, .int .u8 216, .int .u8 66, .int .u8 189, .int .u8 149, .int .u8 84, .int .u8 30]⟩, []⟩
noncomputable def call271 : Call' := callK Tryz.prog [277, 278, 279, 280] (tabOf [(287, entC [e158]), (315, entS spec_compress)]) 3000
theorem cs271 : CallSound Tryz.prog call271 := callK_sound Fits pkS (tab_sound (tab_cons (con_ents Tryz.func287 rfl (ents_cons ok158 ents_nil)) (tab_cons con_compress tab_end))) 3000
theorem ok271 : EntOk Tryz.prog 222 e271 := runE_ok Fits pkS cs271 (n := 4000) (by kernel_rfl) (by kernel_rfl) (by kernel_rfl)
def e274 : Ent := ⟨[.int .i64 6, .slice (some ⟨0, 0, none⟩) 1 1], [.row [.string ⟨⟨[129, 10, 129, 2, 128, 129, 3, 129, 61, 129, 3, 128, 128, 127, 127, 128, 129, 1, 128, 129, 3, 128, 128, 129, 1, 129, 1, 129, 5, 129, 1, 129, 2, 129, 3, 128, 129, 1, 128, 128, 129, 2, 129, 1, 128, 128, 128]⟩⟩] 0 BIG true 1], .agg ⟨[.int .u8 248, .int .u8 195, .int .u8 68, .int .u8 150, .int .u8 66, .int .u8 121, .int .u8 25, .int .u8 219, .int .u8 43, .int .u8 218, .int .u8 27, .int .u8 172, .int .u8 186, .int .u8 225, .int .u8 228, .int .u8 157]⟩, []⟩
noncomputable def call274 : Call' := callK Tryz.prog [277, 278, 279, 280] (tabOf [(287, entC [e60]), (315, entS spec_compress)]) 3000
theorem cs274 : CallSound Tryz.prog call274 := callK_sound Fits pkS (tab_sound (tab_cons (con_ents Tryz.func287 rfl (ents_cons ok60 ents_nil)) (tab_cons con_compress tab_end))) 3000
theorem ok274 : EntOk Tryz.prog 222 e274 := runE_ok Fits pkS cs274 (n := 4000) (by kernel_rfl) (by kernel_rfl) (by kernel_rfl)
def e279 : Ent := ⟨[.int .i64 3, .slice (some ⟨0, 0, none⟩) 2 2], [.row [.string ⟨⟨[48, 48, 48, 52]⟩⟩, .string ⟨⟨[133, 202, 121, 102, 30, 240, 216, 246, 3, 120, 216, 66, 189, 149, 84, 30]⟩⟩] 0 BIG true 2], .agg ⟨[.int .u8 147, .int .u8 78, .int .u8 245, .int .u8 76, .int .u8 114, .int .u8 29, .int .u8 103, .int .u8 66, .int .u8 100, .int .u8 238, .int .u8 232, .int .u8 123, .int .u8 55, .int .u8 216, .int .u8 226, .int .u8 122]⟩, []⟩
noncomputable def call279 : Call' := callK Tryz.prog [277, 278, 279, 280] (tabOf [(287, entC [e65, e66]), (315, entS spec_compress)]) 3000
theorem cs279 : CallSound Tryz.prog call279 := callK_sound Fits pkS (tab_sound (tab_cons (con_ents Tryz.func287 rfl (ents_cons ok65 (ents_cons ok66 ents_nil))) (tab_cons con_compress tab_end))) 3000
theorem ok279 : EntOk Tryz.prog 222 e279 := runE_ok Fits pkS cs279 (n := 4000) (by kernel_rfl) (by kernel_rfl) (by kernel_rfl)
end Go.Proofs.YtlhlkjhjoalhoaaGreatDoor
