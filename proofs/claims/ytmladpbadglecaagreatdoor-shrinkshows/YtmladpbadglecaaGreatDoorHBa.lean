/-
  The seat's program, as AM needs it.
-/
import Derived.Test.YtmladpbadglecaaGreatDoorProg
import Derived.Test.YtmladpbadglecaaGreatDoorHA3
import Derived.KernelRfl
set_option linter.unusedSimpArgs false
set_option linter.unusedVariables false
namespace Go.Proofs.YtmladpbadglecaaGreatDoor
open Go Go.AM
set_option maxRecDepth 100000
theorem kR {p : Prop} (h : p := by kernel_rfl) : p := h
abbrev PK (f : Nat) : Prop := progOk Tryz.prog [f] = true
theorem kP {f : Nat} (h : progOk Tryz.prog [f] = true := by kernel_rfl) : PK f := h
theorem xok : ∀ f, xKind f ≠ 0 -> ∃ fn, Tryz.prog.funcs[f]? = some fn /\ fn.body = none /\ (fn.name == "runtime.NumGoroutine") = false /\ Extern.findNext fn = none /\ Extern.find fn = some (xSem (xKind f)) := by
 intro f hf
 by_cases h0 : f = 300
 ·subst h0
  exact ⟨_, Tryz.func300, kR, kR, kR, kR⟩
 exfalso
 refine hf ?_
 unfold xKind
 rw [show Nat.beq f 300 = false from Bool.eq_false_iff.2 fun h => h0 (Nat.eq_of_beq_eq_true h)]
 rfl
theorem Fits : Fit Tryz.prog := ⟨named_all kR xok, kR⟩
def usedF : List Nat := [6, 9, 10, 12, 13, 14, 16, 17, 18, 19, 20, 21, 25, 26, 27, 28, 29, 30, 31, 32, 33, 34, 35, 37, 38, 39, 40, 41, 42, 43, 44, 45, 46, 47, 48, 57, 58, 59, 61, 62, 63, 66, 68, 69, 71, 72, 74, 76, 77, 78, 79, 80, 81, 82, 83, 84, 90, 91, 93, 94, 95, 96, 98, 99, 100, 101, 103, 104, 106, 108, 109, 110, 111, 112, 113, 115, 116, 117, 118, 119, 120, 121, 122, 123, 124, 125, 126, 128, 129, 130, 131, 133, 134, 135, 136, 138, 139, 140, 141, 142, 144, 145, 146, 147, 149, 150, 151, 152, 153, 161, 163, 165, 166, 168, 169, 170, 171, 172, 173, 174, 175, 176, 178, 179, 180, 181, 182, 184, 185, 186, 187, 188, 189, 190, 192, 193, 195, 196, 197, 198, 199, 200, 201, 202, 203, 204, 205, 206, 207, 212, 215, 216, 217, 220, 221, 222, 223, 224, 225, 227, 228, 229, 230, 231, 232, 233, 234, 235, 236, 237, 238, 239, 240, 241, 242, 243, 254, 255, 256, 257, 258, 259, 260, 262, 264, 266, 267, 268, 269, 272, 273, 276, 278, 281, 282, 283, 284, 287, 288, 289, 290, 292, 301, 302, 303, 309, 310, 311, 312, 314, 315, 316, 317, 322, 323, 324, 325, 326, 330, 331, 332, 341, 344, 347, 349]
theorem pkC {f : Nat} {l : List Nat} (h : progOk Tryz.prog [f] = true) (hl : progOk Tryz.prog l = true) : progOk Tryz.prog (f :: l) = true := by
 refine List.all_eq_true.2 fun g hg => ?_
 rcases List.mem_cons.1 hg with rfl | hg
 ·exact List.all_eq_true.1 h g (List.mem_singleton.2 rfl)
 ·exact List.all_eq_true.1 hl g hg
theorem pk6 : PK 6 := kP
theorem pk9 : PK 9 := kP
theorem pk10 : PK 10 := kP
theorem pk12 : PK 12 := kP
theorem pk13 : PK 13 := kP
theorem pk14 : PK 14 := kP
theorem pk16 : PK 16 := kP
theorem pk17 : PK 17 := kP
theorem pk18 : PK 18 := kP
theorem pk19 : PK 19 := kP
theorem pk20 : PK 20 := kP
theorem pk21 : PK 21 := kP
theorem pk25 : PK 25 := kP
theorem pk26 : PK 26 := kP
theorem pk27 : PK 27 := kP
theorem pk28 : PK 28 := kP
theorem pk29 : PK 29 := kP
theorem pk30 : PK 30 := kP
theorem pk31 : PK 31 := kP
theorem pk32 : PK 32 := kP
theorem pk33 : PK 33 := kP
theorem pk34 : PK 34 := kP
theorem pk35 : PK 35 := kP
theorem pk37 : PK 37 := kP
theorem pk38 : PK 38 := kP
theorem pk39 : PK 39 := kP
theorem pk40 : PK 40 := kP
theorem pk41 : PK 41 := kP
theorem pk42 : PK 42 := kP
theorem pk43 : PK 43 := kP
theorem pk44 : PK 44 := kP
theorem pk45 : PK 45 := kP
theorem pk46 : PK 46 := kP
theorem pk47 : PK 47 := kP
theorem pk48 : PK 48 := kP
theorem pk57 : PK 57 := kP
theorem pk58 : PK 58 := kP
theorem pk59 : PK 59 := kP
theorem pk61 : PK 61 := kP
theorem pk62 : PK 62 := kP
theorem pk63 : PK 63 := kP
theorem pk66 : PK 66 := kP
theorem pk68 : PK 68 := kP
theorem pk69 : PK 69 := kP
theorem pk71 : PK 71 := kP
theorem pk72 : PK 72 := kP
theorem pk74 : PK 74 := kP
theorem pk76 : PK 76 := kP
theorem pk77 : PK 77 := kP
theorem pk78 : PK 78 := kP
theorem pk79 : PK 79 := kP
theorem pk80 : PK 80 := kP
theorem pk81 : PK 81 := kP
theorem pk82 : PK 82 := kP
theorem pk83 : PK 83 := kP
theorem pk84 : PK 84 := kP
theorem pk90 : PK 90 := kP
theorem pk91 : PK 91 := kP
theorem pk93 : PK 93 := kP
theorem pk94 : PK 94 := kP
theorem pk95 : PK 95 := kP
theorem pk96 : PK 96 := kP
theorem pk98 : PK 98 := kP
theorem pk99 : PK 99 := kP
theorem pk100 : PK 100 := kP
theorem pk101 : PK 101 := kP
theorem pk103 : PK 103 := kP
theorem pk104 : PK 104 := kP
theorem pk106 : PK 106 := kP
theorem pk108 : PK 108 := kP
theorem pk109 : PK 109 := kP
theorem pk110 : PK 110 := kP
theorem pk111 : PK 111 := kP
theorem pk112 : PK 112 := kP
theorem pk113 : PK 113 := kP
theorem pk115 : PK 115 := kP
theorem pk116 : PK 116 := kP
theorem pk117 : PK 117 := kP
theorem pk118 : PK 118 := kP
theorem pk119 : PK 119 := kP
theorem pk120 : PK 120 := kP
theorem pk121 : PK 121 := kP
theorem pk122 : PK 122 := kP
theorem pk123 : PK 123 := kP
theorem pk124 : PK 124 := kP
theorem pk125 : PK 125 := kP
theorem pk126 : PK 126 := kP
theorem pk128 : PK 128 := kP
theorem pk129 : PK 129 := kP
theorem pk130 : PK 130 := kP
theorem pk131 : PK 131 := kP
theorem pk133 : PK 133 := kP
theorem pk134 : PK 134 := kP
theorem pk135 : PK 135 := kP
theorem pk136 : PK 136 := kP
theorem pk138 : PK 138 := kP
theorem pk139 : PK 139 := kP
theorem pk140 : PK 140 := kP
theorem pk141 : PK 141 := kP
theorem pk142 : PK 142 := kP
theorem pk144 : PK 144 := kP
theorem pk145 : PK 145 := kP
theorem pk146 : PK 146 := kP
theorem pk147 : PK 147 := kP
theorem pk149 : PK 149 := kP
theorem pk150 : PK 150 := kP
theorem pk151 : PK 151 := kP
theorem pk152 : PK 152 := kP
theorem pk153 : PK 153 := kP
theorem pk161 : PK 161 := kP
theorem pk163 : PK 163 := kP
theorem pk165 : PK 165 := kP
theorem pk166 : PK 166 := kP
theorem pk168 : PK 168 := kP
theorem pk169 : PK 169 := kP
theorem pk170 : PK 170 := kP
theorem pk171 : PK 171 := kP
theorem pk172 : PK 172 := kP
theorem pk173 : PK 173 := kP
theorem pk174 : PK 174 := kP
theorem pk175 : PK 175 := kP
theorem pk176 : PK 176 := kP
theorem pk178 : PK 178 := kP
theorem pk179 : PK 179 := kP
theorem pk180 : PK 180 := kP
theorem pk181 : PK 181 := kP
theorem pk182 : PK 182 := kP
theorem pk184 : PK 184 := kP
theorem pk185 : PK 185 := kP
theorem pk186 : PK 186 := kP
theorem pk187 : PK 187 := kP
theorem pk188 : PK 188 := kP
theorem pk189 : PK 189 := kP
theorem pk190 : PK 190 := kP
theorem pk192 : PK 192 := kP
theorem pk193 : PK 193 := kP
theorem pk195 : PK 195 := kP
theorem pk196 : PK 196 := kP
theorem pk197 : PK 197 := kP
theorem pk198 : PK 198 := kP
theorem pk199 : PK 199 := kP
theorem pk200 : PK 200 := kP
theorem pk201 : PK 201 := kP
theorem pk202 : PK 202 := kP
theorem pk203 : PK 203 := kP
theorem pk204 : PK 204 := kP
theorem pk205 : PK 205 := kP
theorem pk206 : PK 206 := kP
theorem pk207 : PK 207 := kP
theorem pk212 : PK 212 := kP
theorem pk215 : PK 215 := kP
theorem pk216 : PK 216 := kP
theorem pk217 : PK 217 := kP
theorem pk220 : PK 220 := kP
theorem pk221 : PK 221 := kP
theorem pk222 : PK 222 := kP
theorem pk223 : PK 223 := kP
theorem pk224 : PK 224 := kP
theorem pk225 : PK 225 := kP
theorem pk227 : PK 227 := kP
theorem pk228 : PK 228 := kP
theorem pk229 : PK 229 := kP
theorem pk230 : PK 230 := kP
theorem pk231 : PK 231 := kP
theorem pk232 : PK 232 := kP
theorem pk233 : PK 233 := kP
theorem pk234 : PK 234 := kP
theorem pk235 : PK 235 := kP
theorem pk236 : PK 236 := kP
theorem pk237 : PK 237 := kP
theorem pk238 : PK 238 := kP
theorem pk239 : PK 239 := kP
theorem pk240 : PK 240 := kP
theorem pk241 : PK 241 := kP
theorem pk242 : PK 242 := kP
theorem pk243 : PK 243 := kP
theorem pk254 : PK 254 := kP
theorem pk255 : PK 255 := kP
theorem pk256 : PK 256 := kP
theorem pk257 : PK 257 := kP
theorem pk258 : PK 258 := kP
theorem pk259 : PK 259 := kP
theorem pk260 : PK 260 := kP
theorem pk262 : PK 262 := kP
theorem pk264 : PK 264 := kP
theorem pk266 : PK 266 := kP
theorem pk267 : PK 267 := kP
theorem pk268 : PK 268 := kP
theorem pk269 : PK 269 := kP
theorem pk272 : PK 272 := kP
theorem pk273 : PK 273 := kP
theorem pk276 : PK 276 := kP
theorem pk278 : PK 278 := kP
theorem pk281 : PK 281 := kP
theorem pk282 : PK 282 := kP
theorem pk283 : PK 283 := kP
theorem pk284 : PK 284 := kP
theorem pk287 : PK 287 := kP
theorem pk288 : PK 288 := kP
theorem pk289 : PK 289 := kP
theorem pk290 : PK 290 := kP
theorem pk292 : PK 292 := kP
theorem pk301 : PK 301 := kP
theorem pk302 : PK 302 := kP
theorem pk303 : PK 303 := kP
theorem pk309 : PK 309 := kP
theorem pk310 : PK 310 := kP
theorem pk311 : PK 311 := kP
theorem pk312 : PK 312 := kP
theorem pk314 : PK 314 := kP
theorem pk315 : PK 315 := kP
theorem pk316 : PK 316 := kP
theorem pk317 : PK 317 := kP
theorem pk322 : PK 322 := kP
theorem pk323 : PK 323 := kP
theorem pk324 : PK 324 := kP
theorem pk325 : PK 325 := kP
theorem pk326 : PK 326 := kP
theorem pk330 : PK 330 := kP
theorem pk331 : PK 331 := kP
theorem pk332 : PK 332 := kP
theorem pk341 : PK 341 := kP
theorem pk344 : PK 344 := kP
theorem pk347 : PK 347 := kP
theorem pk349 : PK 349 := kP
theorem pkU : progOk Tryz.prog usedF = true := pkC pk6 (pkC pk9 (pkC pk10 (pkC pk12 (pkC pk13 (pkC pk14 (pkC pk16 (pkC pk17 (pkC pk18 (pkC pk19 (pkC pk20 (pkC pk21 (pkC pk25 (pkC pk26 (pkC pk27 (pkC pk28 (pkC pk29 (pkC pk30 (pkC pk31 (pkC pk32 (pkC pk33 (pkC pk34 (pkC pk35 (pkC pk37 (pkC pk38 (pkC pk39 (pkC pk40 (pkC pk41 (pkC pk42 (pkC pk43 (pkC pk44 (pkC pk45 (pkC pk46 (pkC pk47 (pkC pk48 (pkC pk57 (pkC pk58 (pkC pk59 (pkC pk61 (pkC pk62 (pkC pk63 (pkC pk66 (pkC pk68 (pkC pk69 (pkC pk71 (pkC pk72 (pkC pk74 (pkC pk76 (pkC pk77 (pkC pk78 (pkC pk79 (pkC pk80 (pkC pk81 (pkC pk82 (pkC pk83 (pkC pk84 (pkC pk90 (pkC pk91 (pkC pk93 (pkC pk94 (pkC pk95 (pkC pk96 (pkC pk98 (pkC pk99 (pkC pk100 (pkC pk101 (pkC pk103 (pkC pk104 (pkC pk106 (pkC pk108 (pkC pk109 (pkC pk110 (pkC pk111 (pkC pk112 (pkC pk113 (pkC pk115 (pkC pk116 (pkC pk117 (pkC pk118 (pkC pk119 (pkC pk120 (pkC pk121 (pkC pk122 (pkC pk123 (pkC pk124 (pkC pk125 (pkC pk126 (pkC pk128 (pkC pk129 (pkC pk130 (pkC pk131 (pkC pk133 (pkC pk134 (pkC pk135 (pkC pk136 (pkC pk138 (pkC pk139 (pkC pk140 (pkC pk141 (pkC pk142 (pkC pk144 (pkC pk145 (pkC pk146 (pkC pk147 (pkC pk149 (pkC pk150 (pkC pk151 (pkC pk152 (pkC pk153 (pkC pk161 (pkC pk163 (pkC pk165 (pkC pk166 (pkC pk168 (pkC pk169 (pkC pk170 (pkC pk171 (pkC pk172 (pkC pk173 (pkC pk174 (pkC pk175 (pkC pk176 (pkC pk178 (pkC pk179 (pkC pk180 (pkC pk181 (pkC pk182 (pkC pk184 (pkC pk185 (pkC pk186 (pkC pk187 (pkC pk188 (pkC pk189 (pkC pk190 (pkC pk192 (pkC pk193 (pkC pk195 (pkC pk196 (pkC pk197 (pkC pk198 (pkC pk199 (pkC pk200 (pkC pk201 (pkC pk202 (pkC pk203 (pkC pk204 (pkC pk205 (pkC pk206 (pkC pk207 (pkC pk212 (pkC pk215 (pkC pk216 (pkC pk217 (pkC pk220 (pkC pk221 (pkC pk222 (pkC pk223 (pkC pk224 (pkC pk225 (pkC pk227 (pkC pk228 (pkC pk229 (pkC pk230 (pkC pk231 (pkC pk232 (pkC pk233 (pkC pk234 (pkC pk235 (pkC pk236 (pkC pk237 (pkC pk238 (pkC pk239 (pkC pk240 (pkC pk241 (pkC pk242 (pkC pk243 (pkC pk254 (pkC pk255 (pkC pk256 (pkC pk257 (pkC pk258 (pkC pk259 (pkC pk260 (pkC pk262 (pkC pk264 (pkC pk266 (pkC pk267 (pkC pk268 (pkC pk269 (pkC pk272 (pkC pk273 (pkC pk276 (pkC pk278 (pkC pk281 (pkC pk282 (pkC pk283 (pkC pk284 (pkC pk287 (pkC pk288 (pkC pk289 (pkC pk290 (pkC pk292 (pkC pk301 (pkC pk302 (pkC pk303 (pkC pk309 (pkC pk310 (pkC pk311 (pkC pk312 (pkC pk314 (pkC pk315 (pkC pk316 (pkC pk317 (pkC pk322 (pkC pk323 (pkC pk324 (pkC pk325 (pkC pk326 (pkC pk330 (pkC pk331 (pkC pk332 (pkC pk341 (pkC pk344 (pkC pk347 (pkC pk349 (rfl)))))))))))))))))))))))))))))))))))))))))))))))))))))))))))))))))))))))))))))))))))))))))))))))))))))))))))))))))))))))))))))))))))))))))))))))))))))))))))))))))))))))))))))))))))))))))))))))))))))))))))))))))))))))))))))))))
theorem pkS {l : List Nat} (h : l.all (fun f => usedF.contains f) = true := by kernel_rfl) : progOk Tryz.prog l = true := by
 refine List.all_eq_true.2 fun f hf => ?_
 have h1 := List.all_eq_true.1 h f hf
 exact List.all_eq_true.1 pkU f (by simpa using h1)
theorem ents_nil {f : FuncId} : ∀ e ∈ ([] : List Ent), EntOk Tryz.prog f e := fun e h => by cases h
theorem ents_cons {f : FuncId} {e : Ent} {r : List Ent} (h : EntOk Tryz.prog f e) (hr : ∀ e ∈ r, EntOk Tryz.prog f e) : ∀ x ∈ e :: r, EntOk Tryz.prog f x := fun x hx => by
 rcases List.mem_cons.1 hx with rfl | hx
 ·exact h
 ·exact hr x hx
end Go.Proofs.YtmladpbadglecaaGreatDoor
