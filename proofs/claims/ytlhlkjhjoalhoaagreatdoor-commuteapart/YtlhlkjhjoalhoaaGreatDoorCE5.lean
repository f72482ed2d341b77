/-
  Steps of the proof.
-/
import Derived.Test.YtlhlkjhjoalhoaaGreatDoorCE2
set_option linter.unusedSimpArgs false
set_option linter.unusedVariables false
namespace Go.Proofs.YtlhlkjhjoalhoaaGreatDoor
open Go Go.AM
set_option maxRecDepth 100000
set_option maxHeartbeats 0
def e44 : Ent := ⟨[.int .i64 6, .slice (some ⟨0, 0, none⟩) 1 1], [.row [.string ⟨⟨[129, 10, 129, 2, 128, 129, 1, 129, 63, 129, 1, 128, 128, 127, 127, 128, 129, 1, 128, 129, 3, 128, 128, 129, 1, 129, 1, 129, 5, 129, 1, 129, 2, 129, 3, 128, 128, 129, 1, 129, 1, 129, 1, 129, 1, 129, 1, 129, 2, 128, 128, 128, 128]⟩⟩] 0 BIG true 1], .agg ⟨[.int .u8 128, .int .u8 233, .int .u8 176, .int .u8 89, .int .u8 9, .int .u8 73, .int .u8 60, .int .u8 244, .int .u8 102, .int .u8 111, .int .u8 162, .int .u8 73, .int .u8 218, .int .u8 243, .int .u8 214, .int .u8 255]⟩, []⟩
noncomputable def call44 : Call' := callK Tryz.prog [277, 278, 279, 280] (tabOf [(287, entC [e41]), (315, entS spec_compress)]) 3000
theorem cs44 : CallSound Tryz.prog call44 := callK_sound Fits pkS (tab_sound (tab_cons (con_ents Tryz.func287 rfl (ents_cons ok41 ents_nil)) (tab_cons con_compress tab_end))) 3000
theorem ok44 : EntOk Tryz.prog 222 e44 := runE_ok Fits pkS cs44 (n := 4000) (by kernel_rfl) (by kernel_rfl) (by kernel_rfl)
def e48 : Ent := ⟨[.int .i64 6, .slice (some ⟨0, 0, none⟩) 1 1], [.row [.string ⟨⟨[129, 10, 129, 2, 128, 129, 1, 129, 63, 129, 1, 128, 128, 128, 127, 128, 129, 1, 128, 129, 3, 128, 128, 129, 1, 129, 1, 129, 5, 129, 1, 129, 2, 129, 3, 128, 128, 129, 1, 129, 1, 129, 1, 129, 1, 129, 1, 129, 2, 128, 128, 128, 128]⟩⟩] 0 BIG true 1], .agg ⟨[.int .u8 255, .int .u8 95, .int .u8 175, .int .u8 94, .int .u8 221, .int .u8 139, .int .u8 154, .int .u8 198, .int .u8 138, .int .u8 222, .int .u8 7, .int .u8 242, .int .u8 21, .int .u8 98, .int .u8 173, .int .u8 229]⟩, []⟩
noncomputable def call48 : Call' := callK Tryz.prog [277, 278, 279, 280] (tabOf [(287, entC [e41]), (315, entS spec_compress)]) 3000
theorem cs48 : CallSound Tryz.prog call48 := callK_sound Fits pkS (tab_sound (tab_cons (con_ents Tryz.func287 rfl (ents_cons ok41 ents_nil)) (tab_cons con_compress tab_end))) 3000
theorem ok48 : EntOk Tryz.prog 222 e48 := runE_ok Fits pkS cs48 (n := 4000) (by kernel_rfl) (by kernel_rfl) (by kernel_rfl)
def e54 : Ent := ⟨[.int .i64 6, .slice (some ⟨0, 0, none⟩) 1 1], [.row [.string ⟨⟨[129, 10, 129, 2, 128, 129, 2, 129, 62, 129, 2, 128, 128, 127, 127, 128, 129, 1, 128, 129, 3, 128, 128, 129, 1, 129, 1, 129, 6, 128, 129, 3, 128, 128, 129, 1, 129, 1, 129, 1, 129, 1, 129, 1, 129, 2, 128, 129, 2, 128, 128]⟩⟩] 0 BIG true 1], .agg ⟨[.int .u8 87, .int .u8 59, .int .u8 27, .int .u8 115, .int .u8 81, .int .u8 190, .int .u8 243, .int .u8 62, .int .u8 206, .int .u8 187, .int .u8 170, .int .u8 6, .int .u8 163, .int .u8 114, .int .u8 201, .int .u8 188]⟩, []⟩
noncomputable def call54 : Call' := callK Tryz.prog [277, 278, 279, 280] (tabOf [(287, entC [e52]), (315, entS spec_compress)]) 3000
theorem cs54 : CallSound Tryz.prog call54 := callK_sound Fits pkS (tab_sound (tab_cons (con_ents Tryz.func287 rfl (ents_cons ok52 ents_nil)) (tab_cons con_compress tab_end))) 3000
theorem ok54 : EntOk Tryz.prog 222 e54 := runE_ok Fits pkS cs54 (n := 4000) (by kernel_rfl) (by kernel_rfl) (by kernel_rfl)
def e57 : Ent := ⟨[.int .i64 6, .slice (some ⟨0, 0, none⟩) 1 1], [.row [.string ⟨⟨[129, 10, 129, 2, 128, 129, 2, 129, 62, 129, 2, 128, 128, 128, 127, 128, 129, 1, 128, 129, 3, 128, 128, 129, 1, 129, 1, 129, 6, 128, 129, 3, 128, 128, 129, 1, 129, 1, 129, 1, 129, 1, 129, 1, 129, 2, 128, 129, 2, 128, 128]⟩⟩] 0 BIG true 1], .agg ⟨[.int .u8 89, .int .u8 150, .int .u8 106, .int .u8 192, .int .u8 97, .int .u8 181, .int .u8 208, .int .u8 34, .int .u8 70, .int .u8 183, .int .u8 145, .int .u8 20, .int .u8 153, .int .u8 239, .int .u8 206, .int .u8 197]⟩, []⟩
noncomputable def call57 : Call' := callK Tryz.prog [277, 278, 279, 280] (tabOf [(287, entC [e52]), (315, entS spec_compress)]) 3000
theorem cs57 : CallSound Tryz.prog call57 := callK_sound Fits pkS (tab_sound (tab_cons (con_ents Tryz.func287 rfl (ents_cons ok52 ents_nil)) (tab_cons con_compress tab_end))) 3000
theorem ok57 : EntOk Tryz.prog 222 e57 := runE_ok Fits pkS cs57 (n := 4000) (by kernel_rfl) (by kernel_rfl) (by kernel_rfl)
def e62 : Ent := ⟨[.int .i64 6, .slice (some ⟨0, 0, none⟩) 1 1], [.row [.string ⟨⟨[129, 10, 129, 2, 128, 129, 3, 129, 61, 129, 3, 128, 128, 127, 128, 128, 129, 1, 128, 129, 3, 128, 129, 1, 128, 128, 129, 3, 128, 128, 129, 1, 129, 1, 129, 1, 129, 1, 129, 1, 129, 2, 128, 129, 2, 128, 128]⟩⟩] 0 BIG true 1], .agg ⟨[.int .u8 78, .int .u8 36, .int .u8 168, .int .u8 125, .int .u8 241, .int .u8 82, .int .u8 157, .int .u8 33, .int .u8 160, .int .u8 202, .int .u8 40, .int .u8 219, .int .u8 146, .int .u8 134, .int .u8 17, .int .u8 203]⟩, []⟩
noncomputable def call62 : Call' := callK Tryz.prog [277, 278, 279, 280] (tabOf [(287, entC [e60]), (315, entS spec_compress)]) 3000
theorem cs62 : CallSound Tryz.prog call62 := callK_sound Fits pkS (tab_sound (tab_cons (con_ents Tryz.func287 rfl (ents_cons ok60 ents_nil)) (tab_cons con_compress tab_end))) 3000
theorem ok62 : EntOk Tryz.prog 222 e62 := runE_ok Fits pkS cs62 (n := 4000) (by kernel_rfl) (by kernel_rfl) (by kernel_rfl)
def e68 : Ent := ⟨[.int .i64 3, .slice (some ⟨0, 0, none⟩) 2 2], [.row [.string ⟨⟨[48, 48, 48, 48]⟩⟩, .string ⟨⟨[125, 228, 74, 87, 64, 36, 139, 213, 182, 225, 91, 182, 158, 241, 151, 43]⟩⟩] 0 BIG true 2], .agg ⟨[.int .u8 21, .int .u8 204, .int .u8 140, .int .u8 134, .int .u8 32, .int .u8 102, .int .u8 140, .int .u8 47, .int .u8 161, .int .u8 69, .int .u8 100, .int .u8 229, .int .u8 248, .int .u8 229, .int .u8 37, .int .u8 230]⟩, []⟩
noncomputable def call68 : Call' := callK Tryz.prog [277, 278, 279, 280] (tabOf [(287, entC [e65, e66]), (315, entS spec_compress)]) 3000
theorem cs68 : CallSound Tryz.prog call68 := callK_sound Fits pkS (tab_sound (tab_cons (con_ents Tryz.func287 rfl (ents_cons ok65 (ents_cons ok66 ents_nil))) (tab_cons con_compress tab_end))) 3000
theorem ok68 : EntOk Tryz.prog 222 e68 := runE_ok Fits pkS cs68 (n := 4000) (by kernel_rfl) (by kernel_rfl) (by kernel_rfl)
def e70 : Ent := ⟨[.int .i64 3, .slice (some ⟨0, 0, none⟩) 2 2], [.row [.string ⟨⟨[48, 48, 48, 49]⟩⟩, .string ⟨⟨[128, 233, 176, 89, 9, 73, 60, 244, 102, 111, 162, 73, 218, 243, 214, 255]⟩⟩] 0 BIG true 2], .agg ⟨[.int .u8 124, .int .u8 47, .int .u8 42, .int .u8 186, .int .u8 159, .int .u8 72, .int .u8 167, .int .u8 7, .int .u8 135, .int .u8 209, .int .u8 232, .int .u8 206, .int .u8 74, .int .u8 83, .int .u8 81, .int .u8 20]⟩, []⟩
noncomputable def call70 : Call' := callK Tryz.prog [277, 278, 279, 280] (tabOf [(287, entC [e65, e66]), (315, entS spec_compress)]) 3000
theorem cs70 : CallSound Tryz.prog call70 := callK_sound Fits pkS (tab_sound (tab_cons (con_ents Tryz.func287 rfl (ents_cons ok65 (ents_cons ok66 ents_nil))) (tab_cons con_compress tab_end))) 3000
theorem ok70 : EntOk Tryz.prog 222 e70 := runE_ok Fits pkS cs70 (n := 4000) (by kernel_rfl) (by kernel_rfl) (by kernel_rfl)
def e72 : Ent := ⟨[.int .i64 4, .slice (some ⟨0, 0, none⟩) 2 2], [.row [.string ⟨⟨[21, 204, 140, 134, 32, 102, 140, 47, 161, 69, 100, 229, 248, 229, 37, 230]⟩⟩, .string ⟨⟨[124, 47, 42, 186, 159, 72, 167, 7, 135, 209, 232, 206, 74, 83, 81, 20]⟩⟩] 0 BIG true 2], .agg ⟨[.int .u8 178, .int .u8 27, .int .u8 11, .int .u8 253, .int .u8 115, .int .u8 36, .int .u8 6, .int .u8 210, .int .u8 89, .int .u8 104, .int .u8 200, .int .u8 128, .int .u8 118, .int .u8 26, .int .u8 127, .int .u8 62]⟩, []⟩
noncomputable def call72 : Call' := callK Tryz.prog [277, 278, 279, 280] (tabOf [(287, entC [e66]), (315, entS spec_compress)]) 3000
theorem cs72 : CallSound Tryz.prog call72 := callK_sound Fits pkS (tab_sound (tab_cons (con_ents Tryz.func287 rfl (ents_cons ok66 ents_nil)) (tab_cons con_compress tab_end))) 3000
theorem ok72 : EntOk Tryz.prog 222 e72 := runE_ok Fits pkS cs72 (n := 4000) (by kernel_rfl) (by kernel_rfl) (by kernel_rfl)
def e74 : Ent := ⟨[.int .i64 3, .slice (some ⟨0, 0, none⟩) 2 2], [.row [.string ⟨⟨[48, 48, 48, 50]⟩⟩, .string ⟨⟨[255, 95, 175, 94, 221, 139, 154, 198, 138, 222, 7, 242, 21, 98, 173, 229]⟩⟩] 0 BIG true 2], .agg ⟨[.int .u8 150, .int .u8 71, .int .u8 122, .int .u8 156, .int .u8 245, .int .u8 223, .int .u8 67, .int .u8 31, .int .u8 38, .int .u8 116, .int .u8 111, .int .u8 61, .int .u8 241, .int .u8 196, .int .u8 183, .int .u8 159]⟩, []⟩
noncomputable def call74 : Call' := callK Tryz.prog [277, 278, 279, 280] (tabOf [(287, entC [e65, e66]), (315, entS spec_compress)]) 3000
theorem cs74 : CallSound Tryz.prog call74 := callK_sound Fits pkS (tab_sound (tab_cons (con_ents Tryz.func287 rfl (ents_cons ok65 (ents_cons ok66 ents_nil))) (tab_cons con_compress tab_end))) 3000
theorem ok74 : EntOk Tryz.prog 222 e74 := runE_ok Fits pkS cs74 (n := 4000) (by kernel_rfl) (by kernel_rfl) (by kernel_rfl)
def e76 : Ent := ⟨[.int .i64 3, .slice (some ⟨0, 0, none⟩) 2 2], [.row [.string ⟨⟨[48, 48, 48, 51]⟩⟩, .string ⟨⟨[87, 59, 27, 115, 81, 190, 243, 62, 206, 187, 170, 6, 163, 114, 201, 188]⟩⟩] 0 BIG true 2], .agg ⟨[.int .u8 175, .int .u8 185, .int .u8 173, .int .u8 155, .int .u8 187, .int .u8 150, .int .u8 173, .int .u8 44, .int .u8 4, .int .u8 138, .int .u8 72, .int .u8 19, .int .u8 93, .int .u8 80, .int .u8 253, .int .u8 55]⟩, []⟩
noncomputable def call76 : Call' := callK Tryz.prog [277, 278, 279, 280] (tabOf [(287, entC [e65, e66]), (315, entS spec_compress)]) 3000
theorem cs76 : CallSound Tryz.prog call76 := callK_sound Fits pkS (tab_sound (tab_cons (con_ents Tryz.func287 rfl (ents_cons ok65 (ents_cons ok66 ents_nil))) (tab_cons con_compress tab_end))) 3000
theorem ok76 : EntOk Tryz.prog 222 e76 := runE_ok Fits pkS cs76 (n := 4000) (by kernel_rfl) (by kernel_rfl) (by kernel_rfl)
def e78 : Ent := ⟨[.int .i64 4, .slice (some ⟨0, 0, none⟩) 2 2], [.row [.string ⟨⟨[150, 71, 122, 156, 245, 223, 67, 31, 38, 116, 111, 61, 241, 196, 183, 159]⟩⟩, .string ⟨⟨[175, 185, 173, 155, 187, 150, 173, 44, 4, 138, 72, 19, 93, 80, 253, 55]⟩⟩] 0 BIG true 2], .agg ⟨[.int .u8 53, .int .u8 155, .int .u8 34, .int .u8 203, .int .u8 130, .int .u8 0, .int .u8 169, .int .u8 133, .int .u8 155, .int .u8 115, .int .u8 242, .int .u8 41, .int .u8 79, .int .u8 124, .int .u8 151, .int .u8 82]⟩, []⟩
noncomputable def call78 : Call' := callK Tryz.prog [277, 278, 279, 280] (tabOf [(287, entC [e66]), (315, entS spec_compress)]) 3000
theorem cs78 : CallSound Tryz.prog call78 := callK_sound Fits pkS (tab_sound (tab_cons (con_ents Tryz.func287 rfl (ents_cons ok66 ents_nil)) (tab_cons con_compress tab_end))) 3000
theorem ok78 : EntOk Tryz.prog 222 e78 := runE_ok Fits pkS cs78 (n := 4000) (by kernel_rfl) (by kernel_rfl) (by kernel_rfl)
end Go.Proofs.YtlhlkjhjoalhoaaGreatDoor
