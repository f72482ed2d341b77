/-
  Steps of the proof.
-/
import Derived.Test.YtlhlkjhjoalhoaaGreatDoorCE2
set_option linter.unusedSimpArgs false
set_option linter.unusedVariables false
namespace Go.Proofs.YtlhlkjhjoalhoaaGreatDoor
open Go Go.AM
set_option maxRecDepth 100000
set_option maxHeartbeats 0
def e214 : Ent := ⟨[.int .i64 3, .slice (some ⟨0, 0, none⟩) 2 2], [.row [.string ⟨⟨[48, 48, 48, 55]⟩⟩, .string ⟨⟨[66, 217, 45, 187, 63, 197, 155, 137, 153, 65, 10, 244, 113, 58, 93, 183]⟩⟩] 0 BIG true 2], .agg ⟨[.int .u8 113, .int .u8 209, .int .u8 218, .int .u8 231, .int .u8 150, .int .u8 152, .int .u8 155, .int .u8 193, .int .u8 49, .int .u8 78, .int .u8 83, .int .u8 122, .int .u8 111, .int .u8 56, .int .u8 197, .int .u8 222]⟩, []⟩
noncomputable def call214 : Call' := callK Tryz.prog [277, 278, 279, 280] (tabOf [(287, entC [e65, e66]), (315, entS spec_compress)]) 3000
theorem cs214 : CallSound Tryz.prog call214 := callK_sound Fits pkS (tab_sound (tab_cons (con_ents Tryz.func287 rfl (ents_cons ok65 (ents_cons ok66 ents_nil))) (tab_cons con_compress tab_end))) 3000
theorem ok214 : EntOk Tryz.prog 222 e214 := runE_ok Fits pkS cs214 (n := 4000) (by kernel_rfl) (by kernel_rfl) (by kernel_rfl)
def e216 : Ent := ⟨[.int .i64 4, .slice (some ⟨0, 0, none⟩) 2 2], [.row [.string ⟨⟨[55, 228, 75, 220, 64, 187, 224, 33, 32, 123, 100, 202, 169, 50, 68, 43]⟩⟩, .string ⟨⟨[113, 209, 218, 231, 150, 152, 155, 193, 49, 78, 83, 122, 111, 56, 197, 222]⟩⟩] 0 BIG true 2], .agg ⟨[.int .u8 42, .int .u8 8, .int .u8 123, .int .u8 9, .int .u8 112, .int .u8 36, .int .u8 45, .int .u8 2, .int .u8 30, .int .u8 252, .int .u8 65, .int .u8 159, .int .u8 188, .int .u8 126, .int .u8 202, .int .u8 46]⟩, []⟩
noncomputable def call216 : Call' := callK Tryz.prog [277, 278, 279, 280] (tabOf [(287, entC [e66]), (315, entS spec_compress)]) 3000
theorem cs216 : CallSound Tryz.prog call216 := callK_sound Fits pkS (tab_sound (tab_cons (con_ents Tryz.func287 rfl (ents_cons ok66 ents_nil)) (tab_cons con_compress tab_end))) 3000
theorem ok216 : EntOk Tryz.prog 222 e216 := runE_ok Fits pkS cs216 (n := 4000) (by kernel_rfl) (by kernel_rfl) (by kernel_rfl)
def e218 : Ent := ⟨[.int .i64 4, .slice (some ⟨0, 0, none⟩) 2 2], [.row [.string ⟨⟨[185, 197, 171, 99, 85, 118, 237, 133, 66, 22, 136, 111, 30, 250, 237, 153]⟩⟩, .string ⟨⟨[42, 8, 123, 9, 112, 36, 45, 2, 30, 252, 65, 159, 188, 126, 202, 46]⟩⟩] 0 BIG true 2], .agg ⟨[.int .u8 223, .int .u8 223, .int .u8 159, .int .u8 39, .int .u8 135, .int .u8 87, .int .u8 97, .int .u8 144, .int .u8 174, .int .u8 38, .int .u8 92, .int .u8 241, .int .u8 138, .int .u8 75, .int .u8 81, .int .u8 10]⟩, []⟩
noncomputable def call218 : Call' := callK Tryz.prog [277, 278, 279, 280] (tabOf [(287, entC [e66]), (315, entS spec_compress)]) 3000
theorem cs218 : CallSound Tryz.prog call218 := callK_sound Fits pkS (tab_sound (tab_cons (con_ents Tryz.func287 rfl (ents_cons ok66 ents_nil)) (tab_cons con_compress tab_end))) 3000
theorem ok218 : EntOk Tryz.prog 222 e218 := runE_ok Fits pkS cs218 (n := 4000) (by kernel_rfl) (by kernel_rfl) (by kernel_rfl)
def e220 : Ent := ⟨[.int .i64 4, .slice (some ⟨0, 0, none⟩) 2 2], [.row [.string ⟨⟨[9, 215, 140, 132, 131, 137, 8, 187, 112, 19, 132, 26, 140, 131, 223, 220]⟩⟩, .string ⟨⟨[223, 223, 159, 39, 135, 87, 97, 144, 174, 38, 92, 241, 138, 75, 81, 10]⟩⟩] 0 BIG true 2], .agg ⟨[.int .u8 101, .int .u8 122, .int .u8 191, .int .u8 93, .int .u8 131, .int .u8 80, .int .u8 140, .int .u8 201, .int .u8 92, .int .u8 169, .int .u8 64, .int .u8 12, .int .u8 87, .int .u8 148, .int .u8 107, .int .u8 60]⟩, []⟩
noncomputable def call220 : Call' := callK Tryz.prog [277, 278, 279, 280] (tabOf [(287, entC [e66]), (315, entS spec_compress)]) 3000
theorem cs220 : CallSound Tryz.prog call220 := callK_sound Fits pkS (tab_sound (tab_cons (con_ents Tryz.func287 rfl (ents_cons ok66 ents_nil)) (tab_cons con_compress tab_end))) 3000
theorem ok220 : EntOk Tryz.prog 222 e220 := runE_ok Fits pkS cs220 (n := 4000) (by kernel_rfl) (by kernel_rfl) (by kernel_rfl)
def e222 : Ent := ⟨[.int .i64 3, .slice (some ⟨0, 0, none⟩) 2 2], [.row [.string ⟨⟨[48, 48, 48, 56]⟩⟩, .string ⟨⟨[106, 210, 65, 162, 24, 47, 91, 209, 22, 57, 97, 165, 233, 116, 101, 59]⟩⟩] 0 BIG true 2], .agg ⟨[.int .u8 231, .int .u8 240, .int .u8 106, .int .u8 35, .int .u8 117, .int .u8 103, .int .u8 174, .int .u8 239, .int .u8 188, .int .u8 210, .int .u8 117, .int .u8 68, .int .u8 140, .int .u8 82, .int .u8 62, .int .u8 175]⟩, []⟩
noncomputable def call222 : Call' := callK Tryz.prog [277, 278, 279, 280] (tabOf [(287, entC [e65, e66]), (315, entS spec_compress)]) 3000
theorem cs222 : CallSound Tryz.prog call222 := callK_sound Fits pkS (tab_sound (tab_cons (con_ents Tryz.func287 rfl (ents_cons ok65 (ents_cons ok66 ents_nil))) (tab_cons con_compress tab_end))) 3000
theorem ok222 : EntOk Tryz.prog 222 e222 := runE_ok Fits pkS cs222 (n := 4000) (by kernel_rfl) (by kernel_rfl) (by kernel_rfl)
def e224 : Ent := ⟨[.int .i64 4, .slice (some ⟨0, 0, none⟩) 2 2], [.row [.string ⟨⟨[101, 122, 191, 93, 131, 80, 140, 201, 92, 169, 64, 12, 87, 148, 107, 60]⟩⟩, .string ⟨⟨[231, 240, 106, 35, 117, 103, 174, 239, 188, 210, 117, 68, 140, 82, 62, 175]⟩⟩] 0 BIG true 2], .agg ⟨[.int .u8 249, .int .u8 244, .int .u8 158, .int .u8 18, .int .u8 50, .int .u8 141, .int .u8 0, .int .u8 108, .int .u8 44, .int .u8 138, .int .u8 83, .int .u8 17, .int .u8 6, .int .u8 213, .int .u8 37, .int .u8 122]⟩, []⟩
noncomputable def call224 : Call' := callK Tryz.prog [277, 278, 279, 280] (tabOf [(287, entC [e66]), (315, entS spec_compress)]) 3000
theorem cs224 : CallSound Tryz.prog call224 := callK_sound Fits pkS (tab_sound (tab_cons (con_ents Tryz.func287 rfl (ents_cons ok66 ents_nil)) (tab_cons con_compress tab_end))) 3000
theorem ok224 : EntOk Tryz.prog 222 e224 := runE_ok Fits pkS cs224 (n := 4000) (by kernel_rfl) (by kernel_rfl) (by kernel_rfl)
def e227 : Ent := ⟨[.int .i64 4, .slice (some ⟨0, 0, none⟩) 2 2], [.row [.string ⟨⟨[129, 9]⟩⟩, .string ⟨⟨[249, 244, 158, 18, 50, 141, 0, 108, 44, 138, 83, 17, 6, 213, 37, 122]⟩⟩] 0 BIG true 2], .agg ⟨[.int .u8 101, .int .u8 86, .int .u8 144, .int .u8 81, .int .u8 233, .int .u8 119, .int .u8 241, .int .u8 12, .int .u8 0, .int .u8 111, .int .u8 118, .int .u8 141, .int .u8 132, .int .u8 181, .int .u8 37, .int .u8 42]⟩, []⟩
noncomputable def call227 : Call' := callK Tryz.prog [277, 278, 279, 280] (tabOf [(287, entC [e34, e66]), (315, entS spec_compress)]) 3000
theorem cs227 : CallSound Tryz.prog call227 := callK_sound Fits pkS (tab_sound (tab_cons (con_ents Tryz.func287 rfl (ents_cons ok34 (ents_cons ok66 ents_nil))) (tab_cons con_compress tab_end))) 3000
theorem ok227 : EntOk Tryz.prog 222 e227 := runE_ok Fits pkS cs227 (n := 4000) (by kernel_rfl) (by kernel_rfl) (by kernel_rfl)
def e235 : Ent := ⟨[.int .i64 6, .slice (some ⟨0, 0, none⟩) 1 1], [.row [.string ⟨⟨[129, 10, 129, 2, 128, 129, 1, 129, 63, 129, 1, 128, 128, 129, 1, 127, 128, 129, 1, 128, 129, 3, 128, 128, 129, 1, 129, 1, 129, 5, 129, 1, 129, 2, 129, 3, 128, 128, 129, 1, 129, 1, 129, 1, 129, 1, 129, 1, 129, 2, 128, 128, 128, 128]⟩⟩] 0 BIG true 1], .agg ⟨[.int .u8 150, .int .u8 135, .int .u8 85, .int .u8 122, .int .u8 44, .int .u8 211, .int .u8 215, .int .u8 48, .int .u8 61, .int .u8 30, .int .u8 70, .int .u8 161, .int .u8 211, .int .u8 162, .int .u8 209, .int .u8 169]⟩, []⟩
noncomputable def call235 : Call' := callK Tryz.prog [277, 278, 279, 280] (tabOf [(287, entC [e232]), (315, entS spec_compress)]) 3000
theorem cs235 : CallSound Tryz.prog call235 := callK_sound Fits pkS (tab_sound (tab_cons (con_ents Tryz.func287 rfl (ents_cons ok232 ents_nil)) (tab_cons con_compress tab_end))) 3000
theorem ok235 : EntOk Tryz.prog 222 e235 := runE_ok Fits pkS cs235 (n := 4000) (by kernel_rfl) (by kernel_rfl) (by kernel_rfl)
def e238 : Ent := ⟨[.int .i64 6, .slice (some ⟨0, 0, none⟩) 1 1], [.row [.string ⟨⟨[129, 10, 129, 2, 128, 129, 2, 129, 62, 129, 2, 128, 128, 127, 127, 128, 129, 1, 128, 129, 3, 128, 128, 129, 1, 129, 1, 129, 5, 129, 1, 129, 2, 129, 3, 128, 128, 129, 1, 129, 1, 129, 2, 128, 129, 2, 129, 1, 128, 128, 128]⟩⟩] 0 BIG true 1], .agg ⟨[.int .u8 157, .int .u8 32, .int .u8 18, .int .u8 68, .int .u8 208, .int .u8 129, .int .u8 219, .int .u8 181, .int .u8 205, .int .u8 95, .int .u8 178, .int .u8 201, .int .u8 234, .int .u8 180, .int .u8 60, .int .u8 20]⟩, []⟩
noncomputable def call238 : Call' := callK Tryz.prog [277, 278, 279, 280] (tabOf [(287, entC [e52]), (315, entS spec_compress)]) 3000
theorem cs238 : CallSound Tryz.prog call238 := callK_sound Fits pkS (tab_sound (tab_cons (con_ents Tryz.func287 rfl (ents_cons ok52 ents_nil)) (tab_cons con_compress tab_end))) 3000
theorem ok238 : EntOk Tryz.prog 222 e238 := runE_ok Fits pkS cs238 (n := 4000) (by kernel_rfl) (by kernel_rfl) (by kernel_rfl)
def e241 : Ent := ⟨[.int .i64 6, .slice (some ⟨0, 0, none⟩) 1 1], [.row [.string ⟨⟨[129, 10, 129, 2, 128, 129, 2, 129, 62, 129, 2, 128, 128, 128, 127, 128, 129, 1, 128, 129, 3, 128, 128, 129, 1, 129, 1, 129, 5, 129, 1, 129, 2, 129, 3, 128, 128, 129, 1, 129, 1, 129, 2, 128, 129, 2, 129, 1, 128, 128, 128]⟩⟩] 0 BIG true 1], .agg ⟨[.int .u8 9, .int .u8 172, .int .u8 157, .int .u8 145, .int .u8 224, .int .u8 219, .int .u8 255, .int .u8 237, .int .u8 243, .int .u8 93, .int .u8 126, .int .u8 30, .int .u8 162, .int .u8 16, .int .u8 208, .int .u8 176]⟩, []⟩
noncomputable def call241 : Call' := callK Tryz.prog [277, 278, 279, 280] (tabOf [(287, entC [e52]), (315, entS spec_compress)]) 3000
theorem cs241 : CallSound Tryz.prog call241 := callK_sound Fits pkS (tab_sound (tab_cons (con_ents Tryz.func287 rfl (ents_cons ok52 ents_nil)) (tab_cons con_compress tab_end))) 3000
theorem ok241 : EntOk Tryz.prog 222 e241 := runE_ok Fits pkS cs241 (n := 4000) (by kernel_rfl) (by kernel_rfl) (by kernel_rfl)
def e246 : Ent := ⟨[.int .i64 3, .slice (some ⟨0, 0, none⟩) 2 2], [.row [.string ⟨⟨[48, 48, 48, 50]⟩⟩, .string ⟨⟨[150, 135, 85, 122, 44, 211, 215, 48, 61, 30, 70, 161, 211, 162, 209, 169]⟩⟩] 0 BIG true 2], .agg ⟨[.int .u8 161, .int .u8 116, .int .u8 36, .int .u8 124, .int .u8 82, .int .u8 129, .int .u8 20, .int .u8 53, .int .u8 210, .int .u8 40, .int .u8 45, .int .u8 85, .int .u8 165, .int .u8 169, .int .u8 56, .int .u8 144]⟩, []⟩
noncomputable def call246 : Call' := callK Tryz.prog [277, 278, 279, 280] (tabOf [(287, entC [e65, e66]), (315, entS spec_compress)]) 3000
theorem cs246 : CallSound Tryz.prog call246 := callK_sound Fits pkS (tab_sound (tab_cons (con_ents Tryz.func287 rfl (ents_cons ok65 (ents_cons ok66 ents_nil))) (tab_cons con_compress tab_end))) 3000
theorem ok246 : EntOk Tryz.prog 222 e246 := runE_ok Fits pkS cs246 (n := 4000) (by kernel_rfl) (by kernel_rfl) (by kernel_rfl)
end Go.Proofs.YtlhlkjhjoalhoaaGreatDoor
