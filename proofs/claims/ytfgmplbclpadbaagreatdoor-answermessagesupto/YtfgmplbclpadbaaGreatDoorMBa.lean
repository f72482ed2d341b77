/-
  The seat's program, as AM needs it.
-/
import Derived.Test.YtfgmplbclpadbaaGreatDoorProg
import Derived.Test.YtfgmplbclpadbaaGreatDoorMA3
import Derived.KernelRfl
set_option linter.unusedSimpArgs false
set_option linter.unusedVariables false
namespace Go.Proofs.YtfgmplbclpadbaaGreatDoor
open Go Go.AM
set_option maxRecDepth 100000
theorem kR {p : Prop} (h : p := by kernel_rfl) : p := h
abbrev PK (f : Nat) : Prop := progOk Tryz.prog [f] = true
theorem kP {f : Nat} (h : progOk Tryz.prog [f] = true := by kernel_rfl) : PK f := h
theorem xok : ∀ f, xKind f ≠ 0 -> ∃ fn, Tryz.prog.funcs[f]? = some fn /\ fn.body = none /\ (fn.name == "runtime.NumGoroutine") = false /\ Extern.findNext fn = none /\ Extern.find fn = some (xSem (xKind f)) := by
 intro f hf
 by_cases h0 : f = 291
 ·subst h0
  exact ⟨_, Tryz.func291, kR, kR, kR, kR⟩
 by_cases h1 : f = 358
 ·subst h1
  exact ⟨_, Tryz.func358, kR, kR, kR, kR⟩
 exfalso
 refine hf ?_
 unfold xKind
 rw [show Nat.beq f 291 = false from Bool.eq_false_iff.2 fun h => h0 (Nat.eq_of_beq_eq_true h), show Nat.beq f 358 = false from Bool.eq_false_iff.2 fun h => h1 (Nat.eq_of_beq_eq_true h)]
 rfl
theorem Fits : Fit Tryz.prog := ⟨named_all kR xok, kR⟩
def usedF : List Nat := [13, 41, 42, 43, 44, 46, 55, 56, 57, 58, 59, 60, 61, 62, 63, 64, 65, 66, 67, 68, 69, 70, 72, 76, 77, 79, 80, 81, 84, 87, 88, 90, 91, 92, 93, 94, 95, 96, 97, 98, 99, 100, 101, 102, 104, 106, 107, 108, 109, 110, 111, 112, 113, 114, 115, 116, 117, 118, 119, 120, 121, 122, 123, 124, 126, 127, 128, 129, 131, 132, 133, 134, 135, 137, 138, 139, 143, 144, 145, 146, 147, 148, 149, 150, 151, 152, 153, 154, 155, 156, 157, 158, 159, 160, 161, 162, 163, 164, 165, 166, 167, 168, 169, 172, 173, 174, 175, 176, 177, 179, 180, 181, 182, 183, 184, 185, 186, 187, 188, 189, 191, 192, 193, 194, 196, 197, 198, 199, 200, 202, 203, 204, 205, 207, 208, 209, 210, 211, 220, 221, 225, 226, 227, 228, 229, 231, 232, 233, 234, 235, 237, 238, 239, 240, 241, 242, 243, 245, 246, 247, 248, 249, 253, 254, 255, 259, 260, 261, 263, 264, 266, 267, 268, 269, 270, 271, 272, 273, 274, 275, 276, 277, 278, 285, 286, 287, 288, 289, 290, 292, 299, 300, 311, 312, 313, 314, 316, 317, 319, 321, 323, 324, 325, 329, 330, 333, 334, 336, 337, 338, 340, 341, 343, 361, 367, 369, 371, 372, 376, 386]
theorem pkC {f : Nat} {l : List Nat} (h : progOk Tryz.prog [f] = true) (hl : progOk Tryz.prog l = true) : progOk Tryz.prog (f :: l) = true := by
 refine List.all_eq_true.2 fun g hg => ?_
 rcases List.mem_cons.1 hg with rfl | hg
 ·exact List.all_eq_true.1 h g (List.mem_singleton.2 rfl)
 ·exact List.all_eq_true.1 hl g hg
theorem pk13 : PK 13 := kP
theorem pk41 : PK 41 := kP
theorem pk42 : PK 42 := kP
theorem pk43 : PK 43 := kP
theorem pk44 : PK 44 := kP
theorem pk46 : PK 46 := kP
theorem pk55 : PK 55 := kP
theorem pk56 : PK 56 := kP
theorem pk57 : PK 57 := kP
theorem pk58 : PK 58 := kP
theorem pk59 : PK 59 := kP
theorem pk60 : PK 60 := kP
theorem pk61 : PK 61 := kP
theorem pk62 : PK 62 := kP
theorem pk63 : PK 63 := kP
theorem pk64 : PK 64 := kP
theorem pk65 : PK 65 := kP
theorem pk66 : PK 66 := kP
theorem pk67 : PK 67 := kP
theorem pk68 : PK 68 := kP
theorem pk69 : PK 69 := kP
theorem pk70 : PK 70 := kP
theorem pk72 : PK 72 := kP
theorem pk76 : PK 76 := kP
theorem pk77 : PK 77 := kP
theorem pk79 : PK 79 := kP
theorem pk80 : PK 80 := kP
theorem pk81 : PK 81 := kP
theorem pk84 : PK 84 := kP
theorem pk87 : PK 87 := kP
theorem pk88 : PK 88 := kP
theorem pk90 : PK 90 := kP
theorem pk91 : PK 91 := kP
theorem pk92 : PK 92 := kP
theorem pk93 : PK 93 := kP
theorem pk94 : PK 94 := kP
theorem pk95 : PK 95 := kP
theorem pk96 : PK 96 := kP
theorem pk97 : PK 97 := kP
theorem pk98 : PK 98 := kP
theorem pk99 : PK 99 := kP
theorem pk100 : PK 100 := kP
theorem pk101 : PK 101 := kP
theorem pk102 : PK 102 := kP
theorem pk104 : PK 104 := kP
theorem pk106 : PK 106 := kP
theorem pk107 : PK 107 := kP
theorem pk108 : PK 108 := kP
theorem pk109 : PK 109 := kP
theorem pk110 : PK 110 := kP
theorem pk111 : PK 111 := kP
theorem pk112 : PK 112 := kP
theorem pk113 : PK 113 := kP
theorem pk114 : PK 114 := kP
theorem pk115 : PK 115 := kP
theorem pk116 : PK 116 := kP
theorem pk117 : PK 117 := kP
theorem pk118 : PK 118 := kP
theorem pk119 : PK 119 := kP
theorem pk120 : PK 120 := kP
theorem pk121 : PK 121 := kP
theorem pk122 : PK 122 := kP
theorem pk123 : PK 123 := kP
theorem pk124 : PK 124 := kP
theorem pk126 : PK 126 := kP
theorem pk127 : PK 127 := kP
theorem pk128 : PK 128 := kP
theorem pk129 : PK 129 := kP
theorem pk131 : PK 131 := kP
theorem pk132 : PK 132 := kP
theorem pk133 : PK 133 := kP
theorem pk134 : PK 134 := kP
theorem pk135 : PK 135 := kP
theorem pk137 : PK 137 := kP
theorem pk138 : PK 138 := kP
theorem pk139 : PK 139 := kP
theorem pk143 : PK 143 := kP
theorem pk144 : PK 144 := kP
theorem pk145 : PK 145 := kP
theorem pk146 : PK 146 := kP
theorem pk147 : PK 147 := kP
theorem pk148 : PK 148 := kP
theorem pk149 : PK 149 := kP
theorem pk150 : PK 150 := kP
theorem pk151 : PK 151 := kP
theorem pk152 : PK 152 := kP
theorem pk153 : PK 153 := kP
theorem pk154 : PK 154 := kP
theorem pk155 : PK 155 := kP
theorem pk156 : PK 156 := kP
theorem pk157 : PK 157 := kP
theorem pk158 : PK 158 := kP
theorem pk159 : PK 159 := kP
theorem pk160 : PK 160 := kP
theorem pk161 : PK 161 := kP
theorem pk162 : PK 162 := kP
theorem pk163 : PK 163 := kP
theorem pk164 : PK 164 := kP
theorem pk165 : PK 165 := kP
theorem pk166 : PK 166 := kP
theorem pk167 : PK 167 := kP
theorem pk168 : PK 168 := kP
theorem pk169 : PK 169 := kP
theorem pk172 : PK 172 := kP
theorem pk173 : PK 173 := kP
theorem pk174 : PK 174 := kP
theorem pk175 : PK 175 := kP
theorem pk176 : PK 176 := kP
theorem pk177 : PK 177 := kP
theorem pk179 : PK 179 := kP
theorem pk180 : PK 180 := kP
theorem pk181 : PK 181 := kP
theorem pk182 : PK 182 := kP
theorem pk183 : PK 183 := kP
theorem pk184 : PK 184 := kP
theorem pk185 : PK 185 := kP
theorem pk186 : PK 186 := kP
theorem pk187 : PK 187 := kP
theorem pk188 : PK 188 := kP
theorem pk189 : PK 189 := kP
theorem pk191 : PK 191 := kP
theorem pk192 : PK 192 := kP
theorem pk193 : PK 193 := kP
theorem pk194 : PK 194 := kP
theorem pk196 : PK 196 := kP
theorem pk197 : PK 197 := kP
theorem pk198 : PK 198 := kP
theorem pk199 : PK 199 := kP
theorem pk200 : PK 200 := kP
theorem pk202 : PK 202 := kP
theorem pk203 : PK 203 := kP
theorem pk204 : PK 204 := kP
theorem pk205 : PK 205 := kP
theorem pk207 : PK 207 := kP
theorem pk208 : PK 208 := kP
theorem pk209 : PK 209 := kP
theorem pk210 : PK 210 := kP
theorem pk211 : PK 211 := kP
theorem pk220 : PK 220 := kP
theorem pk221 : PK 221 := kP
theorem pk225 : PK 225 := kP
theorem pk226 : PK 226 := kP
theorem pk227 : PK 227 := kP
theorem pk228 : PK 228 := kP
theorem pk229 : PK 229 := kP
theorem pk231 : PK 231 := kP
theorem pk232 : PK 232 := kP
theorem pk233 : PK 233 := kP
theorem pk234 : PK 234 := kP
theorem pk235 : PK 235 := kP
theorem pk237 : PK 237 := kP
theorem pk238 : PK 238 := kP
theorem pk239 : PK 239 := kP
theorem pk240 : PK 240 := kP
theorem pk241 : PK 241 := kP
theorem pk242 : PK 242 := kP
theorem pk243 : PK 243 := kP
theorem pk245 : PK 245 := kP
theorem pk246 : PK 246 := kP
theorem pk247 : PK 247 := kP
theorem pk248 : PK 248 := kP
theorem pk249 : PK 249 := kP
theorem pk253 : PK 253 := kP
theorem pk254 : PK 254 := kP
theorem pk255 : PK 255 := kP
theorem pk259 : PK 259 := kP
theorem pk260 : PK 260 := kP
theorem pk261 : PK 261 := kP
theorem pk263 : PK 263 := kP
theorem pk264 : PK 264 := kP
theorem pk266 : PK 266 := kP
theorem pk267 : PK 267 := kP
theorem pk268 : PK 268 := kP
theorem pk269 : PK 269 := kP
theorem pk270 : PK 270 := kP
theorem pk271 : PK 271 := kP
theorem pk272 : PK 272 := kP
theorem pk273 : PK 273 := kP
theorem pk274 : PK 274 := kP
theorem pk275 : PK 275 := kP
theorem pk276 : PK 276 := kP
theorem pk277 : PK 277 := kP
theorem pk278 : PK 278 := kP
theorem pk285 : PK 285 := kP
theorem pk286 : PK 286 := kP
theorem pk287 : PK 287 := kP
theorem pk288 : PK 288 := kP
theorem pk289 : PK 289 := kP
theorem pk290 : PK 290 := kP
theorem pk292 : PK 292 := kP
theorem pk299 : PK 299 := kP
theorem pk300 : PK 300 := kP
theorem pk311 : PK 311 := kP
theorem pk312 : PK 312 := kP
theorem pk313 : PK 313 := kP
theorem pk314 : PK 314 := kP
theorem pk316 : PK 316 := kP
theorem pk317 : PK 317 := kP
theorem pk319 : PK 319 := kP
theorem pk321 : PK 321 := kP
theorem pk323 : PK 323 := kP
theorem pk324 : PK 324 := kP
theorem pk325 : PK 325 := kP
theorem pk329 : PK 329 := kP
theorem pk330 : PK 330 := kP
theorem pk333 : PK 333 := kP
theorem pk334 : PK 334 := kP
theorem pk336 : PK 336 := kP
theorem pk337 : PK 337 := kP
theorem pk338 : PK 338 := kP
theorem pk340 : PK 340 := kP
theorem pk341 : PK 341 := kP
theorem pk343 : PK 343 := kP
theorem pk361 : PK 361 := kP
theorem pk367 : PK 367 := kP
theorem pk369 : PK 369 := kP
theorem pk371 : PK 371 := kP
theorem pk372 : PK 372 := kP
theorem pk376 : PK 376 := kP
theorem pk386 : PK 386 := kP
theorem pkU : progOk Tryz.prog usedF = true := pkC pk13 (pkC pk41 (pkC pk42 (pkC pk43 (pkC pk44 (pkC pk46 (pkC pk55 (pkC pk56 (pkC pk57 (pkC pk58 (pkC pk59 (pkC pk60 (pkC pk61 (pkC pk62 (pkC pk63 (pkC pk64 (pkC pk65 (pkC pk66 (pkC pk67 (pkC pk68 (pkC pk69 (pkC pk70 (pkC pk72 (pkC pk76 (pkC pk77 (pkC pk79 (pkC pk80 (pkC pk81 (pkC pk84 (pkC pk87 (pkC pk88 (pkC pk90 (pkC pk91 (pkC pk92 (pkC pk93 (pkC pk94 (pkC pk95 (pkC pk96 (pkC pk97 (pkC pk98 (pkC pk99 (pkC pk100 (pkC pk101 (pkC pk102 (pkC pk104 (pkC pk106 (pkC pk107 (pkC pk108 (pkC pk109 (pkC pk110 (pkC pk111 (pkC pk112 (pkC pk113 (pkC pk114 (pkC pk115 (pkC pk116 (pkC pk117 (pkC pk118 (pkC pk119 (pkC pk120 (pkC pk121 (pkC pk122 (pkC pk123 (pkC pk124 (pkC pk126 (pkC pk127 (pkC pk128 (pkC pk129 (pkC pk131 (pkC pk132 (pkC pk133 (pkC pk134 (pkC pk135 (pkC pk137 (pkC pk138 (pkC pk139 (pkC pk143 (pkC pk144 (pkC pk145 (pkC pk146 (pkC pk147 (pkC pk148 (pkC pk149 (pkC pk150 (pkC pk151 (pkC pk152 (pkC pk153 (pkC pk154 (pkC pk155 (pkC pk156 (pkC pk157 (pkC pk158 (pkC pk159 (pkC pk160 (pkC pk161 (pkC pk162 (pkC pk163 (pkC pk164 (pkC pk165 (pkC pk166 (pkC pk167 (pkC pk168 (pkC pk169 (pkC pk172 (pkC pk173 (pkC pk174 (pkC pk175 (pkC pk176 (pkC pk177 (pkC pk179 (pkC pk180 (pkC pk181 (pkC pk182 (pkC pk183 (pkC pk184 (pkC pk185 (pkC pk186 (pkC pk187 (pkC pk188 (pkC pk189 (pkC pk191 (pkC pk192 (pkC pk193 (pkC pk194 (pkC pk196 (pkC pk197 (pkC pk198 (pkC pk199 (pkC pk200 (pkC pk202 (pkC pk203 (pkC pk204 (pkC pk205 (pkC pk207 (pkC pk208 (pkC pk209 (pkC pk210 (pkC pk211 (pkC pk220 (pkC pk221 (pkC pk225 (pkC pk226 (pkC pk227 (pkC pk228 (pkC pk229 (pkC pk231 (pkC pk232 (pkC pk233 (pkC pk234 (pkC pk235 (pkC pk237 (pkC pk238 (pkC pk239 (pkC pk240 (pkC pk241 (pkC pk242 (pkC pk243 (pkC pk245 (pkC pk246 (pkC pk247 (pkC pk248 (pkC pk249 (pkC pk253 (pkC pk254 (pkC pk255 (pkC pk259 (pkC pk260 (pkC pk261 (pkC pk263 (pkC pk264 (pkC pk266 (pkC pk267 (pkC pk268 (pkC pk269 (pkC pk270 (pkC pk271 (pkC pk272 (pkC pk273 (pkC pk274 (pkC pk275 (pkC pk276 (pkC pk277 (pkC pk278 (pkC pk285 (pkC pk286 (pkC pk287 (pkC pk288 (pkC pk289 (pkC pk290 (pkC pk292 (pkC pk299 (pkC pk300 (pkC pk311 (pkC pk312 (pkC pk313 (pkC pk314 (pkC pk316 (pkC pk317 (pkC pk319 (pkC pk321 (pkC pk323 (pkC pk324 (pkC pk325 (pkC pk329 (pkC pk330 (pkC pk333 (pkC pk334 (pkC pk336 (pkC pk337 (pkC pk338 (pkC pk340 (pkC pk341 (pkC pk343 (pkC pk361 (pkC pk367 (pkC pk369 (pkC pk371 (pkC pk372 (pkC pk376 (pkC pk386 (rfl))))))))))))))))))))))))))))))))))))))))))))))))))))))))))))))))))))))))))))))))))))))))))))))))))))))))))))))))))))))))))))))))))))))))))))))))))))))))))))))))))))))))))))))))))))))))))))))))))))))))))))))))))))))))))))
theorem pkS {l : List Nat} (h : l.all (fun f => usedF.contains f) = true := by kernel_rfl) : progOk Tryz.prog l = true := by
 refine List.all_eq_true.2 fun f hf => ?_
 have h1 := List.all_eq_true.1 h f hf
 exact List.all_eq_true.1 pkU f (by simpa using h1)
theorem ents_nil {f : FuncId} : ∀ e ∈ ([] : List Ent), EntOk Tryz.prog f e := fun e h => by cases h
theorem ents_cons {f : FuncId} {e : Ent} {r : List Ent} (h : EntOk Tryz.prog f e) (hr : ∀ e ∈ r, EntOk Tryz.prog f e) : ∀ x ∈ e :: r, EntOk Tryz.prog f x := fun x hx => by
 rcases List.mem_cons.1 hx with rfl | hx
 ·exact h
 ·exact hr x hx
end Go.Proofs.YtfgmplbclpadbaaGreatDoor
