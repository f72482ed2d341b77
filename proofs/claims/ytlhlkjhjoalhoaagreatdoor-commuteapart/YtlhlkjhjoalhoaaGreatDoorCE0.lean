/-
  Steps of the proof.
-/
import Derived.Test.YtlhlkjhjoalhoaaGreatDoorCHe
import Derived.Test.YtlhlkjhjoalhoaaGreatDoorCEo
set_option linter.unusedSimpArgs false
set_option linter.unusedVariables false
namespace Go.Proofs.YtlhlkjhjoalhoaaGreatDoor
open Go Go.AM
set_option maxRecDepth 100000
set_option maxHeartbeats 0
def e0 : Ent := ⟨[.string ⟨⟨[118, 97, 114, 32, 97, 32, 61, 32, 48, 59]⟩⟩], [], .tuple ⟨[.agg ⟨[.int .i64 0, .string ⟨⟨[97]⟩⟩, .int .i64 0, .slice none 0 0]⟩, .int .i64 0, .int .i64 0]⟩, []⟩
noncomputable def call0 : Call' := callK Tryz.prog [74, 128, 187, 188, 190, 246, 189, 191, 247, 192, 248, 75, 129, 82, 131, 132, 193, 249, 120, 134, 135, 136, 195, 254, 76, 137, 138, 196, 259, 197, 264, 125, 184, 139, 172, 224, 284, 316] (tabOf []) 3000
theorem cs0 : CallSound Tryz.prog call0 := callK_sound Fits pkS (tab_sound tab_end) 3000
theorem ok0 : EntOk Tryz.prog 34 e0 := runE_ok Fits pkS cs0 (n := 4000) (by kernel_rfl) (by kernel_rfl) (by kernel_rfl)
def e1 : Ent := ⟨[.string ⟨⟨[118, 97, 114, 32, 98, 32, 61, 32, 48, 59]⟩⟩], [], .tuple ⟨[.agg ⟨[.int .i64 0, .string ⟨⟨[98]⟩⟩, .int .i64 0, .slice none 0 0]⟩, .int .i64 0, .int .i64 0]⟩, []⟩
noncomputable def call1 : Call' := callK Tryz.prog [74, 128, 187, 188, 190, 246, 189, 191, 247, 192, 248, 75, 129, 82, 131, 132, 193, 249, 120, 134, 135, 136, 195, 254, 76, 137, 138, 196, 259, 197, 264, 125, 184, 139, 172, 224, 284, 316] (tabOf []) 3000
theorem cs1 : CallSound Tryz.prog call1 := callK_sound Fits pkS (tab_sound tab_end) 3000
theorem ok1 : EntOk Tryz.prog 34 e1 := runE_ok Fits pkS cs1 (n := 4000) (by kernel_rfl) (by kernel_rfl) (by kernel_rfl)
def e2 : Ent := ⟨[.string ⟨⟨[112, 114, 111, 99, 32, 112, 32, 123, 32, 97, 32, 61, 32, 49, 59, 32, 125]⟩⟩], [], .tuple ⟨[.agg ⟨[.int .i64 5, .string ⟨⟨[112]⟩⟩, .int .i64 0, .slice (some ⟨0, 0, none⟩) 1 1]⟩, .int .i64 0, .int .i64 0]⟩, [.row [.int .i64 8, .string ⟨⟨[]⟩⟩, .int .i64 0, .slice (some ⟨1, 0, none⟩) 1 5] 0 BIG false 4, .row [.int .i64 10, .string ⟨⟨[]⟩⟩, .int .i64 0, .slice (some ⟨2, 0, none⟩) 2 6] 1 BIG false 4, .row [.int .i64 34, .string ⟨⟨[97]⟩⟩, .int .i64 0, .slice none 0 0, .int .i64 32, .string ⟨⟨[]⟩⟩, .int .i64 1, .slice none 0 0] 2 BIG false 8]⟩
noncomputable def call2 : Call' := callK Tryz.prog [74, 128, 187, 188, 190, 246, 189, 191, 247, 192, 248, 75, 129, 82, 131, 132, 193, 249, 120, 133, 134, 194, 253, 250, 302, 332, 333, 353, 136, 195, 254, 303, 334, 335, 76, 137, 138, 196, 259, 260, 197, 264, 125, 184, 198, 256, 310, 258, 262, 261, 139, 199, 265, 311, 172, 224, 284, 316] (tabOf []) 3000
theorem cs2 : CallSound Tryz.prog call2 := callK_sound Fits pkS (tab_sound tab_end) 3000
theorem ok2 : EntOk Tryz.prog 34 e2 := runE_ok Fits pkS cs2 (n := 4000) (by kernel_rfl) (by kernel_rfl) (by kernel_rfl)
end Go.Proofs.YtlhlkjhjoalhoaaGreatDoor
