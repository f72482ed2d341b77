/-
  Steps of the proof.
-/
import Derived.Test.YtlhlkjhjoalhoaaGreatDoorCHe
import Derived.Test.YtlhlkjhjoalhoaaGreatDoorCEo
set_option linter.unusedSimpArgs false
set_option linter.unusedVariables false
namespace Go.Proofs.YtlhlkjhjoalhoaaGreatDoor
open Go Go.AM
set_option maxRecDepth 100000
set_option maxHeartbeats 0
def e31 : Ent := ⟨[.int .i64 64], [], .slice (some ⟨0, 0, none⟩) 2 3, [.row [.int .u8 129, .int .u8 64] 0 BIG false 2]⟩
noncomputable def call31 : Call' := callK Tryz.prog [] (tabOf []) 3000
theorem cs31 : CallSound Tryz.prog call31 := callK_sound Fits pkS (tab_sound tab_end) 3000
theorem ok31 : EntOk Tryz.prog 287 e31 := runE_ok Fits pkS cs31 (n := 4000) (by kernel_rfl) (by kernel_rfl) (by kernel_rfl)
def e32 : Ent := ⟨[.int .i64 (-1)], [], .slice (some ⟨0, 0, none⟩) 1 1, [.row [.int .u8 127] 0 BIG false 1]⟩
noncomputable def call32 : Call' := callK Tryz.prog [] (tabOf []) 3000
theorem cs32 : CallSound Tryz.prog call32 := callK_sound Fits pkS (tab_sound tab_end) 3000
theorem ok32 : EntOk Tryz.prog 287 e32 := runE_ok Fits pkS cs32 (n := 4000) (by kernel_rfl) (by kernel_rfl) (by kernel_rfl)
def e33 : Ent := ⟨[.int .i64 3], [], .slice (some ⟨0, 0, none⟩) 2 3, [.row [.int .u8 129, .int .u8 3] 0 BIG false 2]⟩
noncomputable def call33 : Call' := callK Tryz.prog [] (tabOf []) 3000
theorem cs33 : CallSound Tryz.prog call33 := callK_sound Fits pkS (tab_sound tab_end) 3000
theorem ok33 : EntOk Tryz.prog 287 e33 := runE_ok Fits pkS cs33 (n := 4000) (by kernel_rfl) (by kernel_rfl) (by kernel_rfl)
def e34 : Ent := ⟨[.int .i64 2], [], .slice (some ⟨0, 0, none⟩) 2 3, [.row [.int .u8 129, .int .u8 2] 0 BIG false 2]⟩
noncomputable def call34 : Call' := callK Tryz.prog [] (tabOf []) 3000
theorem cs34 : CallSound Tryz.prog call34 := callK_sound Fits pkS (tab_sound tab_end) 3000
theorem ok34 : EntOk Tryz.prog 287 e34 := runE_ok Fits pkS cs34 (n := 4000) (by kernel_rfl) (by kernel_rfl) (by kernel_rfl)
def e35 : Ent := ⟨[.int .i64 34], [], .slice (some ⟨0, 0, none⟩) 2 3, [.row [.int .u8 129, .int .u8 34] 0 BIG false 2]⟩
noncomputable def call35 : Call' := callK Tryz.prog [] (tabOf []) 3000
theorem cs35 : CallSound Tryz.prog call35 := callK_sound Fits pkS (tab_sound tab_end) 3000
theorem ok35 : EntOk Tryz.prog 287 e35 := runE_ok Fits pkS cs35 (n := 4000) (by kernel_rfl) (by kernel_rfl) (by kernel_rfl)
def e39 : Ent := ⟨[.int .i64 63], [], .slice (some ⟨0, 0, none⟩) 2 3, [.row [.int .u8 129, .int .u8 63] 0 BIG false 2]⟩
noncomputable def call39 : Call' := callK Tryz.prog [] (tabOf []) 3000
theorem cs39 : CallSound Tryz.prog call39 := callK_sound Fits pkS (tab_sound tab_end) 3000
theorem ok39 : EntOk Tryz.prog 287 e39 := runE_ok Fits pkS cs39 (n := 4000) (by kernel_rfl) (by kernel_rfl) (by kernel_rfl)
def e40 : Ent := ⟨[.int .i64 5], [], .slice (some ⟨0, 0, none⟩) 2 3, [.row [.int .u8 129, .int .u8 5] 0 BIG false 2]⟩
noncomputable def call40 : Call' := callK Tryz.prog [] (tabOf []) 3000
theorem cs40 : CallSound Tryz.prog call40 := callK_sound Fits pkS (tab_sound tab_end) 3000
theorem ok40 : EntOk Tryz.prog 287 e40 := runE_ok Fits pkS cs40 (n := 4000) (by kernel_rfl) (by kernel_rfl) (by kernel_rfl)
def e41 : Ent := ⟨[.int .i64 53], [], .slice (some ⟨0, 0, none⟩) 2 3, [.row [.int .u8 129, .int .u8 53] 0 BIG false 2]⟩
noncomputable def call41 : Call' := callK Tryz.prog [] (tabOf []) 3000
theorem cs41 : CallSound Tryz.prog call41 := callK_sound Fits pkS (tab_sound tab_end) 3000
theorem ok41 : EntOk Tryz.prog 287 e41 := runE_ok Fits pkS cs41 (n := 4000) (by kernel_rfl) (by kernel_rfl) (by kernel_rfl)
def e50 : Ent := ⟨[.int .i64 62], [], .slice (some ⟨0, 0, none⟩) 2 3, [.row [.int .u8 129, .int .u8 62] 0 BIG false 2]⟩
noncomputable def call50 : Call' := callK Tryz.prog [] (tabOf []) 3000
theorem cs50 : CallSound Tryz.prog call50 := callK_sound Fits pkS (tab_sound tab_end) 3000
theorem ok50 : EntOk Tryz.prog 287 e50 := runE_ok Fits pkS cs50 (n := 4000) (by kernel_rfl) (by kernel_rfl) (by kernel_rfl)
def e51 : Ent := ⟨[.int .i64 6], [], .slice (some ⟨0, 0, none⟩) 2 3, [.row [.int .u8 129, .int .u8 6] 0 BIG false 2]⟩
noncomputable def call51 : Call' := callK Tryz.prog [] (tabOf []) 3000
theorem cs51 : CallSound Tryz.prog call51 := callK_sound Fits pkS (tab_sound tab_end) 3000
theorem ok51 : EntOk Tryz.prog 287 e51 := runE_ok Fits pkS cs51 (n := 4000) (by kernel_rfl) (by kernel_rfl) (by kernel_rfl)
def e52 : Ent := ⟨[.int .i64 51], [], .slice (some ⟨0, 0, none⟩) 2 3, [.row [.int .u8 129, .int .u8 51] 0 BIG false 2]⟩
noncomputable def call52 : Call' := callK Tryz.prog [] (tabOf []) 3000
theorem cs52 : CallSound Tryz.prog call52 := callK_sound Fits pkS (tab_sound tab_end) 3000
theorem ok52 : EntOk Tryz.prog 287 e52 := runE_ok Fits pkS cs52 (n := 4000) (by kernel_rfl) (by kernel_rfl) (by kernel_rfl)
def e59 : Ent := ⟨[.int .i64 61], [], .slice (some ⟨0, 0, none⟩) 2 3, [.row [.int .u8 129, .int .u8 61] 0 BIG false 2]⟩
noncomputable def call59 : Call' := callK Tryz.prog [] (tabOf []) 3000
theorem cs59 : CallSound Tryz.prog call59 := callK_sound Fits pkS (tab_sound tab_end) 3000
theorem ok59 : EntOk Tryz.prog 287 e59 := runE_ok Fits pkS cs59 (n := 4000) (by kernel_rfl) (by kernel_rfl) (by kernel_rfl)
def e60 : Ent := ⟨[.int .i64 47], [], .slice (some ⟨0, 0, none⟩) 2 3, [.row [.int .u8 129, .int .u8 47] 0 BIG false 2]⟩
noncomputable def call60 : Call' := callK Tryz.prog [] (tabOf []) 3000
theorem cs60 : CallSound Tryz.prog call60 := callK_sound Fits pkS (tab_sound tab_end) 3000
theorem ok60 : EntOk Tryz.prog 287 e60 := runE_ok Fits pkS cs60 (n := 4000) (by kernel_rfl) (by kernel_rfl) (by kernel_rfl)
def e65 : Ent := ⟨[.int .i64 4], [], .slice (some ⟨0, 0, none⟩) 2 3, [.row [.int .u8 129, .int .u8 4] 0 BIG false 2]⟩
noncomputable def call65 : Call' := callK Tryz.prog [] (tabOf []) 3000
theorem cs65 : CallSound Tryz.prog call65 := callK_sound Fits pkS (tab_sound tab_end) 3000
theorem ok65 : EntOk Tryz.prog 287 e65 := runE_ok Fits pkS cs65 (n := 4000) (by kernel_rfl) (by kernel_rfl) (by kernel_rfl)
def e66 : Ent := ⟨[.int .i64 16], [], .slice (some ⟨0, 0, none⟩) 2 3, [.row [.int .u8 129, .int .u8 16] 0 BIG false 2]⟩
noncomputable def call66 : Call' := callK Tryz.prog [] (tabOf []) 3000
theorem cs66 : CallSound Tryz.prog call66 := callK_sound Fits pkS (tab_sound tab_end) 3000
theorem ok66 : EntOk Tryz.prog 287 e66 := runE_ok Fits pkS cs66 (n := 4000) (by kernel_rfl) (by kernel_rfl) (by kernel_rfl)
def e158 : Ent := ⟨[.int .i64 52], [], .slice (some ⟨0, 0, none⟩) 2 3, [.row [.int .u8 129, .int .u8 52] 0 BIG false 2]⟩
noncomputable def call158 : Call' := callK Tryz.prog [] (tabOf []) 3000
theorem cs158 : CallSound Tryz.prog call158 := callK_sound Fits pkS (tab_sound tab_end) 3000
theorem ok158 : EntOk Tryz.prog 287 e158 := runE_ok Fits pkS cs158 (n := 4000) (by kernel_rfl) (by kernel_rfl) (by kernel_rfl)
def e162 : Ent := ⟨[.int .i64 49], [], .slice (some ⟨0, 0, none⟩) 2 3, [.row [.int .u8 129, .int .u8 49] 0 BIG false 2]⟩
noncomputable def call162 : Call' := callK Tryz.prog [] (tabOf []) 3000
theorem cs162 : CallSound Tryz.prog call162 := callK_sound Fits pkS (tab_sound tab_end) 3000
theorem ok162 : EntOk Tryz.prog 287 e162 := runE_ok Fits pkS cs162 (n := 4000) (by kernel_rfl) (by kernel_rfl) (by kernel_rfl)
def e169 : Ent := ⟨[.int .i64 60], [], .slice (some ⟨0, 0, none⟩) 2 3, [.row [.int .u8 129, .int .u8 60] 0 BIG false 2]⟩
noncomputable def call169 : Call' := callK Tryz.prog [] (tabOf []) 3000
theorem cs169 : CallSound Tryz.prog call169 := callK_sound Fits pkS (tab_sound tab_end) 3000
theorem ok169 : EntOk Tryz.prog 287 e169 := runE_ok Fits pkS cs169 (n := 4000) (by kernel_rfl) (by kernel_rfl) (by kernel_rfl)
def e170 : Ent := ⟨[.int .i64 45], [], .slice (some ⟨0, 0, none⟩) 2 3, [.row [.int .u8 129, .int .u8 45] 0 BIG false 2]⟩
noncomputable def call170 : Call' := callK Tryz.prog [] (tabOf []) 3000
theorem cs170 : CallSound Tryz.prog call170 := callK_sound Fits pkS (tab_sound tab_end) 3000
theorem ok170 : EntOk Tryz.prog 287 e170 := runE_ok Fits pkS cs170 (n := 4000) (by kernel_rfl) (by kernel_rfl) (by kernel_rfl)
def e191 : Ent := ⟨[.int .i64 8], [], .slice (some ⟨0, 0, none⟩) 2 3, [.row [.int .u8 129, .int .u8 8] 0 BIG false 2]⟩
noncomputable def call191 : Call' := callK Tryz.prog [] (tabOf []) 3000
theorem cs191 : CallSound Tryz.prog call191 := callK_sound Fits pkS (tab_sound tab_end) 3000
theorem ok191 : EntOk Tryz.prog 287 e191 := runE_ok Fits pkS cs191 (n := 4000) (by kernel_rfl) (by kernel_rfl) (by kernel_rfl)
def e198 : Ent := ⟨[.int .i64 50], [], .slice (some ⟨0, 0, none⟩) 2 3, [.row [.int .u8 129, .int .u8 50] 0 BIG false 2]⟩
noncomputable def call198 : Call' := callK Tryz.prog [] (tabOf []) 3000
theorem cs198 : CallSound Tryz.prog call198 := callK_sound Fits pkS (tab_sound tab_end) 3000
theorem ok198 : EntOk Tryz.prog 287 e198 := runE_ok Fits pkS cs198 (n := 4000) (by kernel_rfl) (by kernel_rfl) (by kernel_rfl)
def e205 : Ent := ⟨[.int .i64 59], [], .slice (some ⟨0, 0, none⟩) 2 3, [.row [.int .u8 129, .int .u8 59] 0 BIG false 2]⟩
noncomputable def call205 : Call' := callK Tryz.prog [] (tabOf []) 3000
theorem cs205 : CallSound Tryz.prog call205 := callK_sound Fits pkS (tab_sound tab_end) 3000
theorem ok205 : EntOk Tryz.prog 287 e205 := runE_ok Fits pkS cs205 (n := 4000) (by kernel_rfl) (by kernel_rfl) (by kernel_rfl)
def e206 : Ent := ⟨[.int .i64 41], [], .slice (some ⟨0, 0, none⟩) 2 3, [.row [.int .u8 129, .int .u8 41] 0 BIG false 2]⟩
noncomputable def call206 : Call' := callK Tryz.prog [] (tabOf []) 3000
theorem cs206 : CallSound Tryz.prog call206 := callK_sound Fits pkS (tab_sound tab_end) 3000
theorem ok206 : EntOk Tryz.prog 287 e206 := runE_ok Fits pkS cs206 (n := 4000) (by kernel_rfl) (by kernel_rfl) (by kernel_rfl)
def e225 : Ent := ⟨[.int .i64 9], [], .slice (some ⟨0, 0, none⟩) 2 3, [.row [.int .u8 129, .int .u8 9] 0 BIG false 2]⟩
noncomputable def call225 : Call' := callK Tryz.prog [] (tabOf []) 3000
theorem cs225 : CallSound Tryz.prog call225 := callK_sound Fits pkS (tab_sound tab_end) 3000
theorem ok225 : EntOk Tryz.prog 287 e225 := runE_ok Fits pkS cs225 (n := 4000) (by kernel_rfl) (by kernel_rfl) (by kernel_rfl)
def e232 : Ent := ⟨[.int .i64 54], [], .slice (some ⟨0, 0, none⟩) 2 3, [.row [.int .u8 129, .int .u8 54] 0 BIG false 2]⟩
noncomputable def call232 : Call' := callK Tryz.prog [] (tabOf []) 3000
theorem cs232 : CallSound Tryz.prog call232 := callK_sound Fits pkS (tab_sound tab_end) 3000
theorem ok232 : EntOk Tryz.prog 287 e232 := runE_ok Fits pkS cs232 (n := 4000) (by kernel_rfl) (by kernel_rfl) (by kernel_rfl)
end Go.Proofs.YtlhlkjhjoalhoaaGreatDoor
