/-
  Steps of the proof.
-/
import Derived.Test.YtlhlkjhjoalhoaaGreatDoorCE3
import Derived.Test.YtlhlkjhjoalhoaaGreatDoorCE11
import Derived.Test.YtlhlkjhjoalhoaaGreatDoorCE12
import Derived.Test.YtlhlkjhjoalhoaaGreatDoorCE13
import Derived.Test.YtlhlkjhjoalhoaaGreatDoorCE15
import Derived.Test.YtlhlkjhjoalhoaaGreatDoorCE16
set_option linter.unusedSimpArgs false
set_option linter.unusedVariables false
namespace Go.Proofs.YtlhlkjhjoalhoaaGreatDoor
open Go Go.AM
set_option maxRecDepth 100000
set_option maxHeartbeats 0
def e230 : Ent := ⟨[.agg ⟨[.slice (some ⟨0, 0, none⟩) 7 10, .slice (some ⟨1, 0, none⟩) 2 3, .slice (some ⟨2, 0, none⟩) 2 3, .slice (some ⟨3, 0, none⟩) 2 4, .slice none 0 0, .slice none 0 0, .slice none 0 0, .slice (some ⟨4, 0, none⟩) 2 3]⟩, .agg ⟨[.int .i64 0, .int .i64 0, .int .i64 0]⟩, .slice none 0 0, .int .i64 100], [o1, o2, o3, o4, o5], .tuple ⟨[.slice (some ⟨5, 0, none⟩) 3 4, .int .i64 0]⟩, [.row [.slice (some ⟨6, 0, none⟩) 0 0, .slice (some ⟨7, 0, none⟩) 2 3, .slice (some ⟨8, 0, none⟩) 3 4] 5 BIG false 3, .row [] 6 BIG false 0, .row [.int .i64 0, .int .i64 1] 7 BIG false 2, .row [.int .i64 0, .int .i64 1, .int .i64 1] 8 BIG false 3]⟩
noncomputable def call230 : Call' := callK Tryz.prog [21, 45, 96, 54, 97, 98, 58, 25, 61, 62, 28, 63, 56, 64, 46, 48, 5, 47, 99, 60, 114, 40, 81, 164, 163, 49, 102, 50, 51, 106, 104, 65, 105] (tabOf [(44, entC [e7]), (110, entC [e9, e13, e16, e20, e23, e99, e104, e107, e113, e118, e124, e129, e132, e137, e142, e147, e152]), (111, entC [e11, e14, e18, e21, e25, e97, e101, e105, e109, e111, e115, e120, e122, e126, e130, e134, e138, e139, e140, e144, e149, e153]), (57, entC [e92, e93, e94, e103, e117, e128, e136, e146, e151]), (22, entC [e95, e155, e195, e229]), (24, entC [e96, e110, e121])]) 3000
theorem cs230 : CallSound Tryz.prog call230 := callK_sound Fits pkS (tab_sound (tab_cons (con_ents Tryz.func44 rfl (ents_cons ok7 ents_nil)) (tab_cons (con_ents Tryz.func110 rfl (ents_cons ok9 (ents_cons ok13 (ents_cons ok16 (ents_cons ok20 (ents_cons ok23 (ents_cons ok99 (ents_cons ok104 (ents_cons ok107 (ents_cons ok113 (ents_cons ok118 (ents_cons ok124 (ents_cons ok129 (ents_cons ok132 (ents_cons ok137 (ents_cons ok142 (ents_cons ok147 (ents_cons ok152 ents_nil)))))))))))))))))) (tab_cons (con_ents Tryz.func111 rfl (ents_cons ok11 (ents_cons ok14 (ents_cons ok18 (ents_cons ok21 (ents_cons ok25 (ents_cons ok97 (ents_cons ok101 (ents_cons ok105 (ents_cons ok109 (ents_cons ok111 (ents_cons ok115 (ents_cons ok120 (ents_cons ok122 (ents_cons ok126 (ents_cons ok130 (ents_cons ok134 (ents_cons ok138 (ents_cons ok139 (ents_cons ok140 (ents_cons ok144 (ents_cons ok149 (ents_cons ok153 ents_nil))))))))))))))))))))))) (tab_cons (con_ents Tryz.func57 rfl (ents_cons ok92 (ents_cons ok93 (ents_cons ok94 (ents_cons ok103 (ents_cons ok117 (ents_cons ok128 (ents_cons ok136 (ents_cons ok146 (ents_cons ok151 ents_nil)))))))))) (tab_cons (con_ents Tryz.func22 rfl (ents_cons ok95 (ents_cons ok155 (ents_cons ok195 (ents_cons ok229 ents_nil))))) (tab_cons (con_ents Tryz.func24 rfl (ents_cons ok96 (ents_cons ok110 (ents_cons ok121 ents_nil)))) tab_end))))))) 3000
theorem ok230 : EntOk Tryz.prog 10 e230 := runE_ok Fits pkS cs230 (n := 4000) (by kernel_rfl) (by kernel_rfl) (by kernel_rfl)
def e265 : Ent := ⟨[.agg ⟨[.slice (some ⟨0, 0, none⟩) 7 10, .slice (some ⟨1, 0, none⟩) 2 3, .slice (some ⟨2, 0, none⟩) 2 3, .slice (some ⟨3, 0, none⟩) 2 4, .slice none 0 0, .slice none 0 0, .slice none 0 0, .slice (some ⟨4, 0, none⟩) 2 3]⟩, .agg ⟨[.int .i64 0, .int .i64 0, .int .i64 0]⟩, .slice none 0 0, .slice (some ⟨5, 0, none⟩) 1 1, .int .i64 1], [o1, o2, o3, o4, o5, o61], .tuple ⟨[.slice (some ⟨6, 0, none⟩) 2 3, .bool true, .int .i64 0]⟩, [.row [.int .i64 0, .int .i64 1] 6 BIG false 2]⟩
noncomputable def call265 : Call' := callK Tryz.prog [23, 56, 5] (tabOf [(24, entC [e110]), (22, entC [e264])]) 3000
theorem cs265 : CallSound Tryz.prog call265 := callK_sound Fits pkS (tab_sound (tab_cons (con_ents Tryz.func24 rfl (ents_cons ok110 ents_nil)) (tab_cons (con_ents Tryz.func22 rfl (ents_cons ok264 ents_nil)) tab_end))) 3000
theorem ok265 : EntOk Tryz.prog 11 e265 := runE_ok Fits pkS cs265 (n := 4000) (by kernel_rfl) (by kernel_rfl) (by kernel_rfl)
end Go.Proofs.YtlhlkjhjoalhoaaGreatDoor
