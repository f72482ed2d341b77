/-
  Steps of the proof.
-/
import Derived.Test.YtlhlkjhjoalhoaaGreatDoorCE2
set_option linter.unusedSimpArgs false
set_option linter.unusedVariables false
namespace Go.Proofs.YtlhlkjhjoalhoaaGreatDoor
open Go Go.AM
set_option maxRecDepth 100000
set_option maxHeartbeats 0
def e80 : Ent := ⟨[.int .i64 4, .slice (some ⟨0, 0, none⟩) 2 2], [.row [.string ⟨⟨[178, 27, 11, 253, 115, 36, 6, 210, 89, 104, 200, 128, 118, 26, 127, 62]⟩⟩, .string ⟨⟨[53, 155, 34, 203, 130, 0, 169, 133, 155, 115, 242, 41, 79, 124, 151, 82]⟩⟩] 0 BIG true 2], .agg ⟨[.int .u8 9, .int .u8 215, .int .u8 140, .int .u8 132, .int .u8 131, .int .u8 137, .int .u8 8, .int .u8 187, .int .u8 112, .int .u8 19, .int .u8 132, .int .u8 26, .int .u8 140, .int .u8 131, .int .u8 223, .int .u8 220]⟩, []⟩
noncomputable def call80 : Call' := callK Tryz.prog [277, 278, 279, 280] (tabOf [(287, entC [e66]), (315, entS spec_compress)]) 3000
theorem cs80 : CallSound Tryz.prog call80 := callK_sound Fits pkS (tab_sound (tab_cons (con_ents Tryz.func287 rfl (ents_cons ok66 ents_nil)) (tab_cons con_compress tab_end))) 3000
theorem ok80 : EntOk Tryz.prog 222 e80 := runE_ok Fits pkS cs80 (n := 4000) (by kernel_rfl) (by kernel_rfl) (by kernel_rfl)
def e82 : Ent := ⟨[.int .i64 3, .slice (some ⟨0, 0, none⟩) 2 2], [.row [.string ⟨⟨[48, 48, 48, 52]⟩⟩, .string ⟨⟨[89, 150, 106, 192, 97, 181, 208, 34, 70, 183, 145, 20, 153, 239, 206, 197]⟩⟩] 0 BIG true 2], .agg ⟨[.int .u8 155, .int .u8 228, .int .u8 229, .int .u8 93, .int .u8 67, .int .u8 46, .int .u8 199, .int .u8 0, .int .u8 221, .int .u8 94, .int .u8 201, .int .u8 115, .int .u8 92, .int .u8 97, .int .u8 20, .int .u8 183]⟩, []⟩
noncomputable def call82 : Call' := callK Tryz.prog [277, 278, 279, 280] (tabOf [(287, entC [e65, e66]), (315, entS spec_compress)]) 3000
theorem cs82 : CallSound Tryz.prog call82 := callK_sound Fits pkS (tab_sound (tab_cons (con_ents Tryz.func287 rfl (ents_cons ok65 (ents_cons ok66 ents_nil))) (tab_cons con_compress tab_end))) 3000
theorem ok82 : EntOk Tryz.prog 222 e82 := runE_ok Fits pkS cs82 (n := 4000) (by kernel_rfl) (by kernel_rfl) (by kernel_rfl)
def e84 : Ent := ⟨[.int .i64 3, .slice (some ⟨0, 0, none⟩) 2 2], [.row [.string ⟨⟨[48, 48, 48, 53]⟩⟩, .string ⟨⟨[78, 36, 168, 125, 241, 82, 157, 33, 160, 202, 40, 219, 146, 134, 17, 203]⟩⟩] 0 BIG true 2], .agg ⟨[.int .u8 58, .int .u8 48, .int .u8 192, .int .u8 73, .int .u8 85, .int .u8 54, .int .u8 94, .int .u8 192, .int .u8 109, .int .u8 192, .int .u8 179, .int .u8 22, .int .u8 32, .int .u8 29, .int .u8 129, .int .u8 189]⟩, []⟩
noncomputable def call84 : Call' := callK Tryz.prog [277, 278, 279, 280] (tabOf [(287, entC [e65, e66]), (315, entS spec_compress)]) 3000
theorem cs84 : CallSound Tryz.prog call84 := callK_sound Fits pkS (tab_sound (tab_cons (con_ents Tryz.func287 rfl (ents_cons ok65 (ents_cons ok66 ents_nil))) (tab_cons con_compress tab_end))) 3000
theorem ok84 : EntOk Tryz.prog 222 e84 := runE_ok Fits pkS cs84 (n := 4000) (by kernel_rfl) (by kernel_rfl) (by kernel_rfl)
def e86 : Ent := ⟨[.int .i64 4, .slice (some ⟨0, 0, none⟩) 2 2], [.row [.string ⟨⟨[155, 228, 229, 93, 67, 46, 199, 0, 221, 94, 201, 115, 92, 97, 20, 183]⟩⟩, .string ⟨⟨[58, 48, 192, 73, 85, 54, 94, 192, 109, 192, 179, 22, 32, 29, 129, 189]⟩⟩] 0 BIG true 2], .agg ⟨[.int .u8 105, .int .u8 34, .int .u8 163, .int .u8 48, .int .u8 6, .int .u8 230, .int .u8 233, .int .u8 125, .int .u8 107, .int .u8 77, .int .u8 102, .int .u8 78, .int .u8 250, .int .u8 221, .int .u8 107, .int .u8 109]⟩, []⟩
noncomputable def call86 : Call' := callK Tryz.prog [277, 278, 279, 280] (tabOf [(287, entC [e66]), (315, entS spec_compress)]) 3000
theorem cs86 : CallSound Tryz.prog call86 := callK_sound Fits pkS (tab_sound (tab_cons (con_ents Tryz.func287 rfl (ents_cons ok66 ents_nil)) (tab_cons con_compress tab_end))) 3000
theorem ok86 : EntOk Tryz.prog 222 e86 := runE_ok Fits pkS cs86 (n := 4000) (by kernel_rfl) (by kernel_rfl) (by kernel_rfl)
def e88 : Ent := ⟨[.int .i64 4, .slice (some ⟨0, 0, none⟩) 2 2], [.row [.string ⟨⟨[9, 215, 140, 132, 131, 137, 8, 187, 112, 19, 132, 26, 140, 131, 223, 220]⟩⟩, .string ⟨⟨[105, 34, 163, 48, 6, 230, 233, 125, 107, 77, 102, 78, 250, 221, 107, 109]⟩⟩] 0 BIG true 2], .agg ⟨[.int .u8 176, .int .u8 137, .int .u8 90, .int .u8 126, .int .u8 204, .int .u8 112, .int .u8 145, .int .u8 146, .int .u8 22, .int .u8 168, .int .u8 225, .int .u8 191, .int .u8 154, .int .u8 179, .int .u8 40, .int .u8 187]⟩, []⟩
noncomputable def call88 : Call' := callK Tryz.prog [277, 278, 279, 280] (tabOf [(287, entC [e66]), (315, entS spec_compress)]) 3000
theorem cs88 : CallSound Tryz.prog call88 := callK_sound Fits pkS (tab_sound (tab_cons (con_ents Tryz.func287 rfl (ents_cons ok66 ents_nil)) (tab_cons con_compress tab_end))) 3000
theorem ok88 : EntOk Tryz.prog 222 e88 := runE_ok Fits pkS cs88 (n := 4000) (by kernel_rfl) (by kernel_rfl) (by kernel_rfl)
def e90 : Ent := ⟨[.int .i64 4, .slice (some ⟨0, 0, none⟩) 2 2], [.row [.string ⟨⟨[129, 6]⟩⟩, .string ⟨⟨[176, 137, 90, 126, 204, 112, 145, 146, 22, 168, 225, 191, 154, 179, 40, 187]⟩⟩] 0 BIG true 2], .agg ⟨[.int .u8 5, .int .u8 169, .int .u8 25, .int .u8 223, .int .u8 232, .int .u8 56, .int .u8 17, .int .u8 71, .int .u8 21, .int .u8 157, .int .u8 169, .int .u8 82, .int .u8 105, .int .u8 226, .int .u8 83, .int .u8 145]⟩, []⟩
noncomputable def call90 : Call' := callK Tryz.prog [277, 278, 279, 280] (tabOf [(287, entC [e34, e66]), (315, entS spec_compress)]) 3000
theorem cs90 : CallSound Tryz.prog call90 := callK_sound Fits pkS (tab_sound (tab_cons (con_ents Tryz.func287 rfl (ents_cons ok34 (ents_cons ok66 ents_nil))) (tab_cons con_compress tab_end))) 3000
theorem ok90 : EntOk Tryz.prog 222 e90 := runE_ok Fits pkS cs90 (n := 4000) (by kernel_rfl) (by kernel_rfl) (by kernel_rfl)
def e160 : Ent := ⟨[.int .i64 6, .slice (some ⟨0, 0, none⟩) 1 1], [.row [.string ⟨⟨[129, 10, 129, 2, 128, 129, 2, 129, 62, 129, 2, 128, 128, 129, 1, 127, 128, 129, 1, 128, 129, 3, 128, 128, 129, 1, 129, 1, 129, 6, 128, 129, 3, 128, 128, 129, 1, 129, 1, 129, 1, 129, 1, 129, 1, 129, 2, 128, 129, 2, 128, 128]⟩⟩] 0 BIG true 1], .agg ⟨[.int .u8 118, .int .u8 213, .int .u8 210, .int .u8 25, .int .u8 5, .int .u8 5, .int .u8 228, .int .u8 216, .int .u8 112, .int .u8 98, .int .u8 248, .int .u8 91, .int .u8 136, .int .u8 108, .int .u8 109, .int .u8 103]⟩, []⟩
noncomputable def call160 : Call' := callK Tryz.prog [277, 278, 279, 280] (tabOf [(287, entC [e158]), (315, entS spec_compress)]) 3000
theorem cs160 : CallSound Tryz.prog call160 := callK_sound Fits pkS (tab_sound (tab_cons (con_ents Tryz.func287 rfl (ents_cons ok158 ents_nil)) (tab_cons con_compress tab_end))) 3000
theorem ok160 : EntOk Tryz.prog 222 e160 := runE_ok Fits pkS cs160 (n := 4000) (by kernel_rfl) (by kernel_rfl) (by kernel_rfl)
def e164 : Ent := ⟨[.int .i64 6, .slice (some ⟨0, 0, none⟩) 1 1], [.row [.string ⟨⟨[129, 10, 129, 2, 128, 129, 3, 129, 61, 129, 3, 128, 128, 127, 127, 128, 129, 1, 128, 129, 3, 128, 128, 129, 1, 129, 1, 129, 6, 128, 129, 3, 128, 128, 129, 1, 129, 1, 129, 2, 128, 129, 2, 129, 1, 129, 2, 128, 128]⟩⟩] 0 BIG true 1], .agg ⟨[.int .u8 125, .int .u8 91, .int .u8 6, .int .u8 161, .int .u8 131, .int .u8 72, .int .u8 207, .int .u8 101, .int .u8 59, .int .u8 184, .int .u8 93, .int .u8 172, .int .u8 105, .int .u8 160, .int .u8 3, .int .u8 157]⟩, []⟩
noncomputable def call164 : Call' := callK Tryz.prog [277, 278, 279, 280] (tabOf [(287, entC [e162]), (315, entS spec_compress)]) 3000
theorem cs164 : CallSound Tryz.prog call164 := callK_sound Fits pkS (tab_sound (tab_cons (con_ents Tryz.func287 rfl (ents_cons ok162 ents_nil)) (tab_cons con_compress tab_end))) 3000
theorem ok164 : EntOk Tryz.prog 222 e164 := runE_ok Fits pkS cs164 (n := 4000) (by kernel_rfl) (by kernel_rfl) (by kernel_rfl)
def e167 : Ent := ⟨[.int .i64 6, .slice (some ⟨0, 0, none⟩) 1 1], [.row [.string ⟨⟨[129, 10, 129, 2, 128, 129, 3, 129, 61, 129, 3, 128, 128, 128, 127, 128, 129, 1, 128, 129, 3, 128, 128, 129, 1, 129, 1, 129, 6, 128, 129, 3, 128, 128, 129, 1, 129, 1, 129, 2, 128, 129, 2, 129, 1, 129, 2, 128, 128]⟩⟩] 0 BIG true 1], .agg ⟨[.int .u8 135, .int .u8 145, .int .u8 250, .int .u8 66, .int .u8 157, .int .u8 83, .int .u8 24, .int .u8 56, .int .u8 108, .int .u8 63, .int .u8 180, .int .u8 94, .int .u8 156, .int .u8 206, .int .u8 120, .int .u8 18]⟩, []⟩
noncomputable def call167 : Call' := callK Tryz.prog [277, 278, 279, 280] (tabOf [(287, entC [e162]), (315, entS spec_compress)]) 3000
theorem cs167 : CallSound Tryz.prog call167 := callK_sound Fits pkS (tab_sound (tab_cons (con_ents Tryz.func287 rfl (ents_cons ok162 ents_nil)) (tab_cons con_compress tab_end))) 3000
theorem ok167 : EntOk Tryz.prog 222 e167 := runE_ok Fits pkS cs167 (n := 4000) (by kernel_rfl) (by kernel_rfl) (by kernel_rfl)
def e172 : Ent := ⟨[.int .i64 6, .slice (some ⟨0, 0, none⟩) 1 1], [.row [.string ⟨⟨[129, 10, 129, 2, 128, 129, 4, 129, 60, 129, 4, 128, 128, 127, 128, 128, 129, 1, 128, 129, 3, 128, 129, 1, 128, 128, 129, 3, 128, 128, 129, 1, 129, 1, 129, 2, 128, 129, 2, 129, 1, 129, 2, 128, 128]⟩⟩] 0 BIG true 1], .agg ⟨[.int .u8 117, .int .u8 234, .int .u8 21, .int .u8 7, .int .u8 74, .int .u8 178, .int .u8 76, .int .u8 86, .int .u8 15, .int .u8 86, .int .u8 140, .int .u8 158, .int .u8 244, .int .u8 140, .int .u8 247, .int .u8 161]⟩, []⟩
noncomputable def call172 : Call' := callK Tryz.prog [277, 278, 279, 280] (tabOf [(287, entC [e170]), (315, entS spec_compress)]) 3000
theorem cs172 : CallSound Tryz.prog call172 := callK_sound Fits pkS (tab_sound (tab_cons (con_ents Tryz.func287 rfl (ents_cons ok170 ents_nil)) (tab_cons con_compress tab_end))) 3000
theorem ok172 : EntOk Tryz.prog 222 e172 := runE_ok Fits pkS cs172 (n := 4000) (by kernel_rfl) (by kernel_rfl) (by kernel_rfl)
def e176 : Ent := ⟨[.int .i64 3, .slice (some ⟨0, 0, none⟩) 2 2], [.row [.string ⟨⟨[48, 48, 48, 52]⟩⟩, .string ⟨⟨[118, 213, 210, 25, 5, 5, 228, 216, 112, 98, 248, 91, 136, 108, 109, 103]⟩⟩] 0 BIG true 2], .agg ⟨[.int .u8 34, .int .u8 59, .int .u8 144, .int .u8 196, .int .u8 59, .int .u8 231, .int .u8 69, .int .u8 104, .int .u8 178, .int .u8 140, .int .u8 176, .int .u8 28, .int .u8 89, .int .u8 1, .int .u8 227, .int .u8 3]⟩, []⟩
noncomputable def call176 : Call' := callK Tryz.prog [277, 278, 279, 280] (tabOf [(287, entC [e65, e66]), (315, entS spec_compress)]) 3000
theorem cs176 : CallSound Tryz.prog call176 := callK_sound Fits pkS (tab_sound (tab_cons (con_ents Tryz.func287 rfl (ents_cons ok65 (ents_cons ok66 ents_nil))) (tab_cons con_compress tab_end))) 3000
theorem ok176 : EntOk Tryz.prog 222 e176 := runE_ok Fits pkS cs176 (n := 4000) (by kernel_rfl) (by kernel_rfl) (by kernel_rfl)
def e178 : Ent := ⟨[.int .i64 3, .slice (some ⟨0, 0, none⟩) 2 2], [.row [.string ⟨⟨[48, 48, 48, 53]⟩⟩, .string ⟨⟨[125, 91, 6, 161, 131, 72, 207, 101, 59, 184, 93, 172, 105, 160, 3, 157]⟩⟩] 0 BIG true 2], .agg ⟨[.int .u8 137, .int .u8 10, .int .u8 75, .int .u8 236, .int .u8 25, .int .u8 79, .int .u8 96, .int .u8 243, .int .u8 133, .int .u8 194, .int .u8 188, .int .u8 14, .int .u8 253, .int .u8 195, .int .u8 106, .int .u8 181]⟩, []⟩
noncomputable def call178 : Call' := callK Tryz.prog [277, 278, 279, 280] (tabOf [(287, entC [e65, e66]), (315, entS spec_compress)]) 3000
theorem cs178 : CallSound Tryz.prog call178 := callK_sound Fits pkS (tab_sound (tab_cons (con_ents Tryz.func287 rfl (ents_cons ok65 (ents_cons ok66 ents_nil))) (tab_cons con_compress tab_end))) 3000
theorem ok178 : EntOk Tryz.prog 222 e178 := runE_ok Fits pkS cs178 (n := 4000) (by kernel_rfl) (by kernel_rfl) (by kernel_rfl)
end Go.Proofs.YtlhlkjhjoalhoaaGreatDoor
