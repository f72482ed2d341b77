/-
  Steps of the proof.
-/
import Derived.Test.YtlhlkjhjoalhoaaGreatDoorCE15
import Derived.Test.YtlhlkjhjoalhoaaGreatDoorCE16
set_option linter.unusedSimpArgs false
set_option linter.unusedVariables false
namespace Go.Proofs.YtlhlkjhjoalhoaaGreatDoor
open Go Go.AM
set_option maxRecDepth 100000
set_option maxHeartbeats 0
def e267 : Ent := ⟨[.agg ⟨[.slice (some ⟨0, 0, none⟩) 7 10, .slice (some ⟨1, 0, none⟩) 2 3, .slice (some ⟨2, 0, none⟩) 2 3, .slice (some ⟨3, 0, none⟩) 2 4, .slice none 0 0, .slice none 0 0, .slice none 0 0, .slice (some ⟨4, 0, none⟩) 2 3]⟩, .agg ⟨[.int .i64 0, .int .i64 0, .int .i64 0]⟩, .slice none 0 0, .slice (some ⟨5, 0, none⟩) 1 1, .int .i64 0], [o1, o2, o3, o4, o5, o61], .tuple ⟨[.slice (some ⟨6, 0, none⟩) 1 2, .bool false, .int .i64 0]⟩, [.row [.int .i64 1] 6 BIG false 1]⟩
noncomputable def call267 : Call' := callK Tryz.prog [23, 56, 5] (tabOf [(22, entC [e264]), (24, entC [e266])]) 3000
theorem cs267 : CallSound Tryz.prog call267 := callK_sound Fits pkS (tab_sound (tab_cons (con_ents Tryz.func22 rfl (ents_cons ok264 ents_nil)) (tab_cons (con_ents Tryz.func24 rfl (ents_cons ok266 ents_nil)) tab_end))) 3000
theorem ok267 : EntOk Tryz.prog 11 e267 := runE_ok Fits pkS cs267 (n := 4000) (by kernel_rfl) (by kernel_rfl) (by kernel_rfl)
def e268 : Ent := ⟨[.agg ⟨[.slice (some ⟨0, 0, none⟩) 7 10, .slice (some ⟨1, 0, none⟩) 2 3, .slice (some ⟨2, 0, none⟩) 2 3, .slice (some ⟨3, 0, none⟩) 2 4, .slice none 0 0, .slice none 0 0, .slice none 0 0, .slice (some ⟨4, 0, none⟩) 2 3]⟩, .agg ⟨[.int .i64 0, .int .i64 0, .int .i64 0]⟩, .slice none 0 0, .slice (some ⟨5, 0, none⟩) 1 1, .int .i64 2], [o1, o2, o3, o4, o5, o61], .tuple ⟨[.slice (some ⟨6, 0, none⟩) 1 2, .bool false, .int .i64 0]⟩, [.row [.int .i64 1] 6 BIG false 1]⟩
noncomputable def call268 : Call' := callK Tryz.prog [23] (tabOf [(22, entC [e264]), (24, entC [e266])]) 3000
theorem cs268 : CallSound Tryz.prog call268 := callK_sound Fits pkS (tab_sound (tab_cons (con_ents Tryz.func22 rfl (ents_cons ok264 ents_nil)) (tab_cons (con_ents Tryz.func24 rfl (ents_cons ok266 ents_nil)) tab_end))) 3000
theorem ok268 : EntOk Tryz.prog 11 e268 := runE_ok Fits pkS cs268 (n := 4000) (by kernel_rfl) (by kernel_rfl) (by kernel_rfl)
def e298 : Ent := ⟨[.agg ⟨[.slice (some ⟨0, 0, none⟩) 7 10, .slice (some ⟨1, 0, none⟩) 2 3, .slice (some ⟨2, 0, none⟩) 2 3, .slice (some ⟨3, 0, none⟩) 2 4, .slice none 0 0, .slice none 0 0, .slice none 0 0, .slice (some ⟨4, 0, none⟩) 2 3]⟩, .agg ⟨[.int .i64 0, .int .i64 0, .int .i64 0]⟩, .slice none 0 0, .slice (some ⟨5, 0, none⟩) 2 2], [o1, o2, o3, o4, o5, o225], .tuple ⟨[.slice (some ⟨6, 0, none⟩) 3 4, .int .i64 0]⟩, [.row [.int .i64 0, .int .i64 1, .int .i64 1] 6 BIG false 3]⟩
noncomputable def call298 : Call' := callK Tryz.prog [25, 61, 62, 28, 63, 56, 5, 64] (tabOf [(24, entC [e121]), (22, entC [e297])]) 3000
theorem cs298 : CallSound Tryz.prog call298 := callK_sound Fits pkS (tab_sound (tab_cons (con_ents Tryz.func24 rfl (ents_cons ok121 ents_nil)) (tab_cons (con_ents Tryz.func22 rfl (ents_cons ok297 ents_nil)) tab_end))) 3000
theorem ok298 : EntOk Tryz.prog 12 e298 := runE_ok Fits pkS cs298 (n := 4000) (by kernel_rfl) (by kernel_rfl) (by kernel_rfl)
def e301 : Ent := ⟨[.agg ⟨[.slice (some ⟨0, 0, none⟩) 7 10, .slice (some ⟨1, 0, none⟩) 2 3, .slice (some ⟨2, 0, none⟩) 2 3, .slice (some ⟨3, 0, none⟩) 2 4, .slice none 0 0, .slice none 0 0, .slice none 0 0, .slice (some ⟨4, 0, none⟩) 2 3]⟩, .agg ⟨[.int .i64 0, .int .i64 0, .int .i64 0]⟩, .slice none 0 0, .slice (some ⟨5, 0, none⟩) 2 2, .slice (some ⟨6, 0, none⟩) 3 3], [o1, o2, o3, o4, o5, o225, .row [.int .i64 0, .int .i64 1, .int .i64 1] 6 BIG true 3], .tuple ⟨[.slice (some ⟨7, 0, none⟩) 2 3, .int .i64 0]⟩, [.row [.int .i64 2, .int .i64 1] 7 BIG false 2]⟩
noncomputable def call301 : Call' := callK Tryz.prog [26, 27, 25, 61, 62, 28, 63, 56, 5, 64, 65, 29] (tabOf [(24, entC [e121]), (22, entC [e297, e300])]) 3000
theorem cs301 : CallSound Tryz.prog call301 := callK_sound Fits pkS (tab_sound (tab_cons (con_ents Tryz.func24 rfl (ents_cons ok121 ents_nil)) (tab_cons (con_ents Tryz.func22 rfl (ents_cons ok297 (ents_cons ok300 ents_nil))) tab_end))) 3000
theorem ok301 : EntOk Tryz.prog 13 e301 := runE_ok Fits pkS cs301 (n := 4000) (by kernel_rfl) (by kernel_rfl) (by kernel_rfl)
end Go.Proofs.YtlhlkjhjoalhoaaGreatDoor
