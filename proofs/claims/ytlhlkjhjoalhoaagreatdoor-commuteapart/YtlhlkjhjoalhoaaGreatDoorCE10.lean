/-
  Steps of the proof.
-/
import Derived.Test.YtlhlkjhjoalhoaaGreatDoorCE2
set_option linter.unusedSimpArgs false
set_option linter.unusedVariables false
namespace Go.Proofs.YtlhlkjhjoalhoaaGreatDoor
open Go Go.AM
set_option maxRecDepth 100000
set_option maxHeartbeats 0
def e281 : Ent := ⟨[.int .i64 3, .slice (some ⟨0, 0, none⟩) 2 2], [.row [.string ⟨⟨[48, 48, 48, 53]⟩⟩, .string ⟨⟨[248, 195, 68, 150, 66, 121, 25, 219, 43, 218, 27, 172, 186, 225, 228, 157]⟩⟩] 0 BIG true 2], .agg ⟨[.int .u8 161, .int .u8 110, .int .u8 224, .int .u8 108, .int .u8 151, .int .u8 93, .int .u8 255, .int .u8 208, .int .u8 101, .int .u8 77, .int .u8 180, .int .u8 27, .int .u8 242, .int .u8 88, .int .u8 11, .int .u8 75]⟩, []⟩
noncomputable def call281 : Call' := callK Tryz.prog [277, 278, 279, 280] (tabOf [(287, entC [e65, e66]), (315, entS spec_compress)]) 3000
theorem cs281 : CallSound Tryz.prog call281 := callK_sound Fits pkS (tab_sound (tab_cons (con_ents Tryz.func287 rfl (ents_cons ok65 (ents_cons ok66 ents_nil))) (tab_cons con_compress tab_end))) 3000
theorem ok281 : EntOk Tryz.prog 222 e281 := runE_ok Fits pkS cs281 (n := 4000) (by kernel_rfl) (by kernel_rfl) (by kernel_rfl)
def e283 : Ent := ⟨[.int .i64 4, .slice (some ⟨0, 0, none⟩) 2 2], [.row [.string ⟨⟨[147, 78, 245, 76, 114, 29, 103, 66, 100, 238, 232, 123, 55, 216, 226, 122]⟩⟩, .string ⟨⟨[161, 110, 224, 108, 151, 93, 255, 208, 101, 77, 180, 27, 242, 88, 11, 75]⟩⟩] 0 BIG true 2], .agg ⟨[.int .u8 139, .int .u8 42, .int .u8 164, .int .u8 226, .int .u8 119, .int .u8 139, .int .u8 166, .int .u8 222, .int .u8 95, .int .u8 187, .int .u8 142, .int .u8 158, .int .u8 140, .int .u8 63, .int .u8 114, .int .u8 215]⟩, []⟩
noncomputable def call283 : Call' := callK Tryz.prog [277, 278, 279, 280] (tabOf [(287, entC [e66]), (315, entS spec_compress)]) 3000
theorem cs283 : CallSound Tryz.prog call283 := callK_sound Fits pkS (tab_sound (tab_cons (con_ents Tryz.func287 rfl (ents_cons ok66 ents_nil)) (tab_cons con_compress tab_end))) 3000
theorem ok283 : EntOk Tryz.prog 222 e283 := runE_ok Fits pkS cs283 (n := 4000) (by kernel_rfl) (by kernel_rfl) (by kernel_rfl)
def e285 : Ent := ⟨[.int .i64 3, .slice (some ⟨0, 0, none⟩) 2 2], [.row [.string ⟨⟨[48, 48, 48, 54]⟩⟩, .string ⟨⟨[66, 217, 45, 187, 63, 197, 155, 137, 153, 65, 10, 244, 113, 58, 93, 183]⟩⟩] 0 BIG true 2], .agg ⟨[.int .u8 217, .int .u8 4, .int .u8 134, .int .u8 15, .int .u8 239, .int .u8 23, .int .u8 210, .int .u8 134, .int .u8 13, .int .u8 25, .int .u8 209, .int .u8 240, .int .u8 73, .int .u8 33, .int .u8 23, .int .u8 43]⟩, []⟩
noncomputable def call285 : Call' := callK Tryz.prog [277, 278, 279, 280] (tabOf [(287, entC [e65, e66]), (315, entS spec_compress)]) 3000
theorem cs285 : CallSound Tryz.prog call285 := callK_sound Fits pkS (tab_sound (tab_cons (con_ents Tryz.func287 rfl (ents_cons ok65 (ents_cons ok66 ents_nil))) (tab_cons con_compress tab_end))) 3000
theorem ok285 : EntOk Tryz.prog 222 e285 := runE_ok Fits pkS cs285 (n := 4000) (by kernel_rfl) (by kernel_rfl) (by kernel_rfl)
def e287 : Ent := ⟨[.int .i64 3, .slice (some ⟨0, 0, none⟩) 2 2], [.row [.string ⟨⟨[48, 48, 48, 55]⟩⟩, .string ⟨⟨[106, 210, 65, 162, 24, 47, 91, 209, 22, 57, 97, 165, 233, 116, 101, 59]⟩⟩] 0 BIG true 2], .agg ⟨[.int .u8 186, .int .u8 200, .int .u8 165, .int .u8 183, .int .u8 17, .int .u8 186, .int .u8 43, .int .u8 15, .int .u8 160, .int .u8 200, .int .u8 54, .int .u8 178, .int .u8 145, .int .u8 2, .int .u8 252, .int .u8 137]⟩, []⟩
noncomputable def call287 : Call' := callK Tryz.prog [277, 278, 279, 280] (tabOf [(287, entC [e65, e66]), (315, entS spec_compress)]) 3000
theorem cs287 : CallSound Tryz.prog call287 := callK_sound Fits pkS (tab_sound (tab_cons (con_ents Tryz.func287 rfl (ents_cons ok65 (ents_cons ok66 ents_nil))) (tab_cons con_compress tab_end))) 3000
theorem ok287 : EntOk Tryz.prog 222 e287 := runE_ok Fits pkS cs287 (n := 4000) (by kernel_rfl) (by kernel_rfl) (by kernel_rfl)
def e289 : Ent := ⟨[.int .i64 4, .slice (some ⟨0, 0, none⟩) 2 2], [.row [.string ⟨⟨[217, 4, 134, 15, 239, 23, 210, 134, 13, 25, 209, 240, 73, 33, 23, 43]⟩⟩, .string ⟨⟨[186, 200, 165, 183, 17, 186, 43, 15, 160, 200, 54, 178, 145, 2, 252, 137]⟩⟩] 0 BIG true 2], .agg ⟨[.int .u8 215, .int .u8 33, .int .u8 227, .int .u8 21, .int .u8 120, .int .u8 153, .int .u8 32, .int .u8 31, .int .u8 193, .int .u8 26, .int .u8 122, .int .u8 104, .int .u8 217, .int .u8 18, .int .u8 2, .int .u8 156]⟩, []⟩
noncomputable def call289 : Call' := callK Tryz.prog [277, 278, 279, 280] (tabOf [(287, entC [e66]), (315, entS spec_compress)]) 3000
theorem cs289 : CallSound Tryz.prog call289 := callK_sound Fits pkS (tab_sound (tab_cons (con_ents Tryz.func287 rfl (ents_cons ok66 ents_nil)) (tab_cons con_compress tab_end))) 3000
theorem ok289 : EntOk Tryz.prog 222 e289 := runE_ok Fits pkS cs289 (n := 4000) (by kernel_rfl) (by kernel_rfl) (by kernel_rfl)
def e291 : Ent := ⟨[.int .i64 4, .slice (some ⟨0, 0, none⟩) 2 2], [.row [.string ⟨⟨[139, 42, 164, 226, 119, 139, 166, 222, 95, 187, 142, 158, 140, 63, 114, 215]⟩⟩, .string ⟨⟨[215, 33, 227, 21, 120, 153, 32, 31, 193, 26, 122, 104, 217, 18, 2, 156]⟩⟩] 0 BIG true 2], .agg ⟨[.int .u8 147, .int .u8 225, .int .u8 24, .int .u8 101, .int .u8 227, .int .u8 177, .int .u8 205, .int .u8 249, .int .u8 10, .int .u8 102, .int .u8 52, .int .u8 151, .int .u8 247, .int .u8 208, .int .u8 1, .int .u8 150]⟩, []⟩
noncomputable def call291 : Call' := callK Tryz.prog [277, 278, 279, 280] (tabOf [(287, entC [e66]), (315, entS spec_compress)]) 3000
theorem cs291 : CallSound Tryz.prog call291 := callK_sound Fits pkS (tab_sound (tab_cons (con_ents Tryz.func287 rfl (ents_cons ok66 ents_nil)) (tab_cons con_compress tab_end))) 3000
theorem ok291 : EntOk Tryz.prog 222 e291 := runE_ok Fits pkS cs291 (n := 4000) (by kernel_rfl) (by kernel_rfl) (by kernel_rfl)
def e293 : Ent := ⟨[.int .i64 4, .slice (some ⟨0, 0, none⟩) 2 2], [.row [.string ⟨⟨[167, 246, 151, 92, 244, 159, 198, 77, 68, 5, 29, 188, 207, 251, 18, 235]⟩⟩, .string ⟨⟨[147, 225, 24, 101, 227, 177, 205, 249, 10, 102, 52, 151, 247, 208, 1, 150]⟩⟩] 0 BIG true 2], .agg ⟨[.int .u8 230, .int .u8 197, .int .u8 227, .int .u8 100, .int .u8 7, .int .u8 135, .int .u8 231, .int .u8 249, .int .u8 10, .int .u8 101, .int .u8 179, .int .u8 149, .int .u8 139, .int .u8 164, .int .u8 88, .int .u8 221]⟩, []⟩
noncomputable def call293 : Call' := callK Tryz.prog [277, 278, 279, 280] (tabOf [(287, entC [e66]), (315, entS spec_compress)]) 3000
theorem cs293 : CallSound Tryz.prog call293 := callK_sound Fits pkS (tab_sound (tab_cons (con_ents Tryz.func287 rfl (ents_cons ok66 ents_nil)) (tab_cons con_compress tab_end))) 3000
theorem ok293 : EntOk Tryz.prog 222 e293 := runE_ok Fits pkS cs293 (n := 4000) (by kernel_rfl) (by kernel_rfl) (by kernel_rfl)
def e295 : Ent := ⟨[.int .i64 4, .slice (some ⟨0, 0, none⟩) 2 2], [.row [.string ⟨⟨[129, 8]⟩⟩, .string ⟨⟨[230, 197, 227, 100, 7, 135, 231, 249, 10, 101, 179, 149, 139, 164, 88, 221]⟩⟩] 0 BIG true 2], .agg ⟨[.int .u8 104, .int .u8 206, .int .u8 178, .int .u8 48, .int .u8 34, .int .u8 141, .int .u8 125, .int .u8 191, .int .u8 11, .int .u8 158, .int .u8 64, .int .u8 177, .int .u8 184, .int .u8 143, .int .u8 148, .int .u8 39]⟩, []⟩
noncomputable def call295 : Call' := callK Tryz.prog [277, 278, 279, 280] (tabOf [(287, entC [e34, e66]), (315, entS spec_compress)]) 3000
theorem cs295 : CallSound Tryz.prog call295 := callK_sound Fits pkS (tab_sound (tab_cons (con_ents Tryz.func287 rfl (ents_cons ok34 (ents_cons ok66 ents_nil))) (tab_cons con_compress tab_end))) 3000
theorem ok295 : EntOk Tryz.prog 222 e295 := runE_ok Fits pkS cs295 (n := 4000) (by kernel_rfl) (by kernel_rfl) (by kernel_rfl)
end Go.Proofs.YtlhlkjhjoalhoaaGreatDoor
