/-
  Steps of the proof.
-/
import Derived.Test.YtlhlkjhjoalhoaaGreatDoorCHe
import Derived.Test.YtlhlkjhjoalhoaaGreatDoorCEo
set_option linter.unusedSimpArgs false
set_option linter.unusedVariables false
namespace Go.Proofs.YtlhlkjhjoalhoaaGreatDoor
open Go Go.AM
set_option maxRecDepth 100000
set_option maxHeartbeats 0
def e3 : Ent := ⟨[.string ⟨⟨[116, 101, 115, 116, 32, 116, 32, 123, 32, 103, 111, 32, 112, 59, 32, 98, 32, 61, 32, 50, 59, 32, 125]⟩⟩], [], .tuple ⟨[.agg ⟨[.int .i64 6, .string ⟨⟨[116]⟩⟩, .int .i64 0, .slice (some ⟨0, 0, none⟩) 1 1]⟩, .int .i64 0, .int .i64 0]⟩, [.row [.int .i64 8, .string ⟨⟨[]⟩⟩, .int .i64 0, .slice (some ⟨1, 0, none⟩) 2 6] 0 BIG false 4, .row [.int .i64 13, .string ⟨⟨[112]⟩⟩, .int .i64 0, .slice none 0 0, .int .i64 10, .string ⟨⟨[]⟩⟩, .int .i64 0, .slice (some ⟨2, 0, none⟩) 2 6] 1 BIG false 8, .row [.int .i64 34, .string ⟨⟨[98]⟩⟩, .int .i64 0, .slice none 0 0, .int .i64 32, .string ⟨⟨[]⟩⟩, .int .i64 2, .slice none 0 0] 2 BIG false 8]⟩
noncomputable def call3 : Call' := callK Tryz.prog [74, 128, 187, 188, 190, 246, 189, 191, 247, 192, 248, 75, 129, 82, 131, 132, 193, 249, 120, 133, 134, 194, 251, 253, 250, 302, 332, 333, 353, 136, 195, 254, 303, 334, 335, 76, 137, 138, 196, 259, 260, 197, 264, 125, 184, 198, 256, 310, 258, 262, 261, 139, 199, 265, 311, 172, 224, 284, 316] (tabOf []) 3000
theorem cs3 : CallSound Tryz.prog call3 := callK_sound Fits pkS (tab_sound tab_end) 3000
theorem ok3 : EntOk Tryz.prog 34 e3 := runE_ok Fits pkS cs3 (n := 4000) (by kernel_rfl) (by kernel_rfl) (by kernel_rfl)
def e6 : Ent := ⟨[.agg ⟨[.slice (some ⟨0, 0, none⟩) 7 10, .slice (some ⟨1, 0, none⟩) 2 3, .slice (some ⟨2, 0, none⟩) 2 3, .slice (some ⟨3, 0, none⟩) 2 4, .slice none 0 0, .slice none 0 0, .slice none 0 0, .slice (some ⟨4, 0, none⟩) 2 3]⟩], [o1, o2, o3, o4, o5], .tuple ⟨[.int .i64 7, .int .i64 0]⟩, []⟩
noncomputable def call6 : Call' := callK Tryz.prog [154, 206, 207, 90, 155, 156] (tabOf []) 3000
theorem cs6 : CallSound Tryz.prog call6 := callK_sound Fits pkS (tab_sound tab_end) 3000
theorem ok6 : EntOk Tryz.prog 87 e6 := runE_ok Fits pkS cs6 (n := 4000) (by kernel_rfl) (by kernel_rfl) (by kernel_rfl)
def e10 : Ent := ⟨[.pointer (some ⟨15, 0, none⟩)], [o1, o2, o3, o4, o5, o7, o12, o13, o14, o15, o16, o17, o18, o19, .map [⟨.agg ⟨[.int .i64 5, .int .i64 1, .bool false]⟩, .bool true, 0⟩, ⟨.agg ⟨[.int .i64 5, .int .i64 0, .bool false]⟩, .bool true, 1⟩, ⟨.agg ⟨[.int .i64 5, .int .i64 2, .bool false]⟩, .bool true, 2⟩] 3, .row [.slice (some ⟨0, 0, none⟩) 7 10, .slice (some ⟨1, 0, none⟩) 2 3, .slice (some ⟨2, 0, none⟩) 2 3, .slice (some ⟨3, 0, none⟩) 2 4, .slice none 0 0, .slice none 0 0, .slice none 0 0, .slice (some ⟨4, 0, none⟩) 2 3, .int .i64 0, .int .i64 0, .int .i64 0, .slice (some ⟨11, 0, none⟩) 2 6, .slice (some ⟨12, 0, none⟩) 2 3, .slice (some ⟨13, 0, none⟩) 0 0, .slice none 0 0, .slice none 0 0, .int .i64 1, .int .i64 63, .int .i64 1, .int .i64 0, .int .i64 0, .int .i64 (-1), .int .i64 (-1), .int .i64 0, .string ⟨⟨[]⟩⟩, .map (some 14)] 15 BIG true 26], .slice (some ⟨16, 0, none⟩) 3 6, [.row [.int .i64 5, .int .i64 0, .bool true, .int .i64 5, .int .i64 1, .bool true, .int .i64 5, .int .i64 2, .bool true] 16 BIG false 9]⟩
noncomputable def call10 : Call' := callK Tryz.prog [231, 78, 149, 293, 322, 232] (tabOf []) 3000
theorem cs10 : CallSound Tryz.prog call10 := callK_sound Fits pkS (tab_sound tab_end) 3000
theorem ok10 : EntOk Tryz.prog 177 e10 := runM_ok Fits cs10 (n := 4000) (by kernel_rfl) (by kernel_rfl) (by kernel_rfl)
def e17 : Ent := ⟨[.pointer (some ⟨15, 0, none⟩)], [o1, o2, o3, o4, o5, o7, o32, o13, o14, o15, o16, o33, o34, o19, o35, o36], .slice (some ⟨16, 0, none⟩) 2 5, [o37]⟩
noncomputable def call17 : Call' := callK Tryz.prog [231, 78, 149, 293, 322, 232] (tabOf []) 3000
theorem cs17 : CallSound Tryz.prog call17 := callK_sound Fits pkS (tab_sound tab_end) 3000
theorem ok17 : EntOk Tryz.prog 177 e17 := runM_ok Fits cs17 (n := 4000) (by kernel_rfl) (by kernel_rfl) (by kernel_rfl)
def e24 : Ent := ⟨[.pointer (some ⟨12, 0, none⟩)], [o1, o2, o3, o4, o5, o7, o45, .row [.int .i64 1] 7 BIG true 1, o46, o47, o48, o49, .row [.slice (some ⟨0, 0, none⟩) 7 10, .slice (some ⟨1, 0, none⟩) 2 3, .slice (some ⟨2, 0, none⟩) 2 3, .slice (some ⟨3, 0, none⟩) 2 4, .slice none 0 0, .slice none 0 0, .slice none 0 0, .slice (some ⟨4, 0, none⟩) 2 3, .int .i64 0, .int .i64 0, .int .i64 0, .slice (some ⟨8, 0, none⟩) 2 6, .slice (some ⟨9, 0, none⟩) 2 3, .slice (some ⟨10, 0, none⟩) 0 0, .slice none 0 0, .slice none 0 0, .int .i64 3, .int .i64 61, .int .i64 3, .int .i64 0, .int .i64 0, .int .i64 (-1), .int .i64 0, .int .i64 0, .string ⟨⟨[]⟩⟩, .map (some 11)] 12 BIG true 26], .slice (some ⟨13, 0, none⟩) 2 5, [o50]⟩
noncomputable def call24 : Call' := callK Tryz.prog [231, 78, 149, 293, 322, 232] (tabOf []) 3000
theorem cs24 : CallSound Tryz.prog call24 := callK_sound Fits pkS (tab_sound tab_end) 3000
theorem ok24 : EntOk Tryz.prog 177 e24 := runM_ok Fits cs24 (n := 4000) (by kernel_rfl) (by kernel_rfl) (by kernel_rfl)
def e100 : Ent := ⟨[.pointer (some ⟨15, 0, none⟩)], [o1, o2, o3, o4, o5, o7, o32, o43, o14, o72, o16, o73, o74, o19, o75, o76], .slice (some ⟨16, 0, none⟩) 2 5, [o77]⟩
noncomputable def call100 : Call' := callK Tryz.prog [231, 78, 149, 293, 322, 232] (tabOf []) 3000
theorem cs100 : CallSound Tryz.prog call100 := callK_sound Fits pkS (tab_sound tab_end) 3000
theorem ok100 : EntOk Tryz.prog 177 e100 := runM_ok Fits cs100 (n := 4000) (by kernel_rfl) (by kernel_rfl) (by kernel_rfl)
def e108 : Ent := ⟨[.pointer (some ⟨12, 0, none⟩)], [o1, o2, o3, o4, o5, o7, o84, o43, o85, o86, o48, o49, .row [.slice (some ⟨0, 0, none⟩) 7 10, .slice (some ⟨1, 0, none⟩) 2 3, .slice (some ⟨2, 0, none⟩) 2 3, .slice (some ⟨3, 0, none⟩) 2 4, .slice none 0 0, .slice none 0 0, .slice none 0 0, .slice (some ⟨4, 0, none⟩) 2 3, .int .i64 0, .int .i64 0, .int .i64 0, .slice (some ⟨8, 0, none⟩) 2 6, .slice (some ⟨9, 0, none⟩) 2 3, .slice (some ⟨10, 0, none⟩) 0 0, .slice none 0 0, .slice none 0 0, .int .i64 4, .int .i64 60, .int .i64 4, .int .i64 0, .int .i64 0, .int .i64 (-1), .int .i64 0, .int .i64 0, .string ⟨⟨[]⟩⟩, .map (some 11)] 12 BIG true 26], .slice (some ⟨13, 0, none⟩) 2 5, [o50]⟩
noncomputable def call108 : Call' := callK Tryz.prog [231, 78, 149, 293, 322, 232] (tabOf []) 3000
theorem cs108 : CallSound Tryz.prog call108 := callK_sound Fits pkS (tab_sound tab_end) 3000
theorem ok108 : EntOk Tryz.prog 177 e108 := runM_ok Fits cs108 (n := 4000) (by kernel_rfl) (by kernel_rfl) (by kernel_rfl)
def e114 : Ent := ⟨[.pointer (some ⟨12, 0, none⟩)], [o1, o2, o3, o4, o5, o7, o32, o43, o94, o86, o48, o95, o96], .slice (some ⟨13, 0, none⟩) 2 5, [o97]⟩
noncomputable def call114 : Call' := callK Tryz.prog [231, 78, 149, 293, 322, 232] (tabOf []) 3000
theorem cs114 : CallSound Tryz.prog call114 := callK_sound Fits pkS (tab_sound tab_end) 3000
theorem ok114 : EntOk Tryz.prog 177 e114 := runM_ok Fits cs114 (n := 4000) (by kernel_rfl) (by kernel_rfl) (by kernel_rfl)
def e119 : Ent := ⟨[.pointer (some ⟨9, 0, none⟩)], [o1, o2, o3, o4, o5, o101, o102, o43, o49, .row [.slice (some ⟨0, 0, none⟩) 7 10, .slice (some ⟨1, 0, none⟩) 2 3, .slice (some ⟨2, 0, none⟩) 2 3, .slice (some ⟨3, 0, none⟩) 2 4, .slice none 0 0, .slice none 0 0, .slice none 0 0, .slice (some ⟨4, 0, none⟩) 2 3, .int .i64 0, .int .i64 0, .int .i64 0, .slice (some ⟨5, 0, none⟩) 2 6, .slice (some ⟨6, 0, none⟩) 2 3, .slice (some ⟨7, 0, none⟩) 0 0, .slice none 0 0, .slice none 0 0, .int .i64 5, .int .i64 59, .int .i64 5, .int .i64 0, .int .i64 0, .int .i64 (-1), .int .i64 0, .int .i64 0, .string ⟨⟨[]⟩⟩, .map (some 8)] 9 BIG true 26], .slice (some ⟨10, 0, none⟩) 2 5, [o103]⟩
noncomputable def call119 : Call' := callK Tryz.prog [231, 78, 149, 293, 322, 232] (tabOf []) 3000
theorem cs119 : CallSound Tryz.prog call119 := callK_sound Fits pkS (tab_sound tab_end) 3000
theorem ok119 : EntOk Tryz.prog 177 e119 := runM_ok Fits cs119 (n := 4000) (by kernel_rfl) (by kernel_rfl) (by kernel_rfl)
def e125 : Ent := ⟨[.pointer (some ⟨15, 0, none⟩)], [o1, o2, o3, o4, o5, o7, o12, o13, o14, o72, o16, o107, o108, o19, o75, o36], .slice (some ⟨16, 0, none⟩) 2 5, [o77]⟩
noncomputable def call125 : Call' := callK Tryz.prog [231, 78, 149, 293, 322, 232] (tabOf []) 3000
theorem cs125 : CallSound Tryz.prog call125 := callK_sound Fits pkS (tab_sound tab_end) 3000
theorem ok125 : EntOk Tryz.prog 177 e125 := runM_ok Fits cs125 (n := 4000) (by kernel_rfl) (by kernel_rfl) (by kernel_rfl)
def e133 : Ent := ⟨[.pointer (some ⟨15, 0, none⟩)], [o1, o2, o3, o4, o5, o7, o32, o13, o14, o72, o48, o112, o74, o19, o35, o76], .slice (some ⟨16, 0, none⟩) 2 5, [o37]⟩
noncomputable def call133 : Call' := callK Tryz.prog [231, 78, 149, 293, 322, 232] (tabOf []) 3000
theorem cs133 : CallSound Tryz.prog call133 := callK_sound Fits pkS (tab_sound tab_end) 3000
theorem ok133 : EntOk Tryz.prog 177 e133 := runM_ok Fits cs133 (n := 4000) (by kernel_rfl) (by kernel_rfl) (by kernel_rfl)
def e143 : Ent := ⟨[.pointer (some ⟨12, 0, none⟩)], [o1, o2, o3, o4, o5, o7, o12, o13, o113, o114, o48, o95, .row [.slice (some ⟨0, 0, none⟩) 7 10, .slice (some ⟨1, 0, none⟩) 2 3, .slice (some ⟨2, 0, none⟩) 2 3, .slice (some ⟨3, 0, none⟩) 2 4, .slice none 0 0, .slice none 0 0, .slice none 0 0, .slice (some ⟨4, 0, none⟩) 2 3, .int .i64 0, .int .i64 0, .int .i64 0, .slice (some ⟨8, 0, none⟩) 2 6, .slice (some ⟨9, 0, none⟩) 2 3, .slice (some ⟨10, 0, none⟩) 0 0, .slice none 0 0, .slice none 0 0, .int .i64 3, .int .i64 61, .int .i64 3, .int .i64 0, .int .i64 0, .int .i64 (-1), .int .i64 (-1), .int .i64 0, .string ⟨⟨[]⟩⟩, .map (some 11)] 12 BIG true 26], .slice (some ⟨13, 0, none⟩) 2 5, [o97]⟩
noncomputable def call143 : Call' := callK Tryz.prog [231, 78, 149, 293, 322, 232] (tabOf []) 3000
theorem cs143 : CallSound Tryz.prog call143 := callK_sound Fits pkS (tab_sound tab_end) 3000
theorem ok143 : EntOk Tryz.prog 177 e143 := runM_ok Fits cs143 (n := 4000) (by kernel_rfl) (by kernel_rfl) (by kernel_rfl)
def e148 : Ent := ⟨[.pointer (some ⟨12, 0, none⟩)], [o1, o2, o3, o4, o5, o7, o32, o13, o115, o86, o48, o35, o96], .slice (some ⟨13, 0, none⟩) 2 5, [.row [.int .i64 0, .int .i64 1, .bool true, .int .i64 5, .int .i64 1, .bool true] 13 BIG false 6]⟩
noncomputable def call148 : Call' := callK Tryz.prog [231, 78, 149, 293, 322, 232] (tabOf []) 3000
theorem cs148 : CallSound Tryz.prog call148 := callK_sound Fits pkS (tab_sound tab_end) 3000
theorem ok148 : EntOk Tryz.prog 177 e148 := runM_ok Fits cs148 (n := 4000) (by kernel_rfl) (by kernel_rfl) (by kernel_rfl)
def e64 : Ent := ⟨[.slice (some ⟨0, 0, none⟩) 6 8], [o68], .int .i64 0, []⟩
noncomputable def call64 : Call' := callK Tryz.prog [285, 320, 286] (tabOf []) 3000
theorem cs64 : CallSound Tryz.prog call64 := callK_sound Fits pkS (tab_sound tab_end) 3000
theorem ok64 : EntOk Tryz.prog 225 e64 := runE_ok Fits pkS cs64 (n := 4000) (by kernel_rfl) (by kernel_rfl) (by kernel_rfl)
def e174 : Ent := ⟨[.slice (some ⟨0, 0, none⟩) 8 10], [o189], .int .i64 0, []⟩
noncomputable def call174 : Call' := callK Tryz.prog [285, 320, 286] (tabOf []) 3000
theorem cs174 : CallSound Tryz.prog call174 := callK_sound Fits pkS (tab_sound tab_end) 3000
theorem ok174 : EntOk Tryz.prog 225 e174 := runE_ok Fits pkS cs174 (n := 4000) (by kernel_rfl) (by kernel_rfl) (by kernel_rfl)
def e210 : Ent := ⟨[.slice (some ⟨0, 0, none⟩) 9 11], [o209], .int .i64 0, []⟩
noncomputable def call210 : Call' := callK Tryz.prog [285, 320, 286] (tabOf []) 3000
theorem cs210 : CallSound Tryz.prog call210 := callK_sound Fits pkS (tab_sound tab_end) 3000
theorem ok210 : EntOk Tryz.prog 225 e210 := runE_ok Fits pkS cs210 (n := 4000) (by kernel_rfl) (by kernel_rfl) (by kernel_rfl)
def e244 : Ent := ⟨[.slice (some ⟨0, 0, none⟩) 8 10], [o223], .int .i64 0, []⟩
noncomputable def call244 : Call' := callK Tryz.prog [285, 320, 286] (tabOf []) 3000
theorem cs244 : CallSound Tryz.prog call244 := callK_sound Fits pkS (tab_sound tab_end) 3000
theorem ok244 : EntOk Tryz.prog 225 e244 := runE_ok Fits pkS cs244 (n := 4000) (by kernel_rfl) (by kernel_rfl) (by kernel_rfl)
def e277 : Ent := ⟨[.slice (some ⟨0, 0, none⟩) 8 10], [o226], .int .i64 0, []⟩
noncomputable def call277 : Call' := callK Tryz.prog [285, 320, 286] (tabOf []) 3000
theorem cs277 : CallSound Tryz.prog call277 := callK_sound Fits pkS (tab_sound tab_end) 3000
theorem ok277 : EntOk Tryz.prog 225 e277 := runE_ok Fits pkS cs277 (n := 4000) (by kernel_rfl) (by kernel_rfl) (by kernel_rfl)
def e28 : Ent := ⟨[.int .i64 10], [], .slice (some ⟨0, 0, none⟩) 2 3, [.row [.int .u8 129, .int .u8 10] 0 BIG false 2]⟩
noncomputable def call28 : Call' := callK Tryz.prog [] (tabOf []) 3000
theorem cs28 : CallSound Tryz.prog call28 := callK_sound Fits pkS (tab_sound tab_end) 3000
theorem ok28 : EntOk Tryz.prog 287 e28 := runE_ok Fits pkS cs28 (n := 4000) (by kernel_rfl) (by kernel_rfl) (by kernel_rfl)
def e29 : Ent := ⟨[.int .i64 1], [], .slice (some ⟨0, 0, none⟩) 2 3, [.row [.int .u8 129, .int .u8 1] 0 BIG false 2]⟩
noncomputable def call29 : Call' := callK Tryz.prog [] (tabOf []) 3000
theorem cs29 : CallSound Tryz.prog call29 := callK_sound Fits pkS (tab_sound tab_end) 3000
theorem ok29 : EntOk Tryz.prog 287 e29 := runE_ok Fits pkS cs29 (n := 4000) (by kernel_rfl) (by kernel_rfl) (by kernel_rfl)
def e30 : Ent := ⟨[.int .i64 0], [], .slice (some ⟨0, 0, none⟩) 1 1, [.row [.int .u8 128] 0 BIG false 1]⟩
noncomputable def call30 : Call' := callK Tryz.prog [] (tabOf []) 3000
theorem cs30 : CallSound Tryz.prog call30 := callK_sound Fits pkS (tab_sound tab_end) 3000
theorem ok30 : EntOk Tryz.prog 287 e30 := runE_ok Fits pkS cs30 (n := 4000) (by kernel_rfl) (by kernel_rfl) (by kernel_rfl)
end Go.Proofs.YtlhlkjhjoalhoaaGreatDoor
