/-
  The seat's program, as AM needs it.
-/
import Derived.Test.YtlhlkjhjoalhoaaGreatDoorProg
import Derived.Test.YtlhlkjhjoalhoaaGreatDoorCA3
import Derived.KernelRfl
set_option linter.unusedSimpArgs false
set_option linter.unusedVariables false
namespace Go.Proofs.YtlhlkjhjoalhoaaGreatDoor
open Go Go.AM
set_option maxRecDepth 100000
theorem xok : ∀ f, xKind f ≠ 0 → ∃ fn, Tryz.prog.funcs[f]? = some fn ∧ fn.body = none ∧ (fn.name == "runtime.NumGoroutine") = false ∧ Extern.findNext fn = none ∧ Extern.find fn = some (xSem (xKind f)) := by
 intro f hf
 by_cases h0 : f = 301
 ·subst h0
  exact ⟨_, Tryz.func301, by kernel_rfl, by kernel_rfl, by kernel_rfl, by kernel_rfl⟩
 exfalso
 refine hf ?_
 unfold xKind
 rw [show Nat.beq f 301 = false from Bool.eq_false_iff.2 fun h => h0 (Nat.eq_of_beq_eq_true h)]
 rfl
theorem Fits : Fit Tryz.prog := ⟨named_all (by kernel_rfl) xok, by kernel_rfl⟩
def usedF : List Nat := [5, 8, 9, 10, 11, 12, 13, 14, 15, 16, 17, 18, 19, 20, 21, 22, 23, 24, 25, 26, 27, 28, 29, 30, 31, 32, 33, 34, 35, 36, 37, 38, 39, 40, 42, 44, 45, 46, 47, 48, 49, 50, 51, 52, 53, 54, 55, 56, 57, 58, 59, 60, 61, 62, 63, 64, 65, 66, 67, 68, 69, 70, 71, 72, 73, 74, 75, 76, 77, 78, 79, 80, 81, 82, 84, 85, 86, 87, 88, 89, 90, 92, 93, 94, 95, 96, 97, 98, 99, 102, 104, 105, 106, 108, 109, 110, 111, 112, 113, 114, 115, 116, 117, 118, 120, 121, 122, 123, 124, 125, 126, 127, 128, 129, 131, 132, 133, 134, 135, 136, 137, 138, 139, 140, 149, 150, 152, 153, 154, 155, 156, 157, 158, 160, 161, 162, 163, 164, 166, 167, 168, 169, 170, 171, 172, 173, 174, 175, 176, 177, 178, 179, 180, 182, 183, 184, 185, 187, 188, 189, 190, 191, 192, 193, 194, 195, 196, 197, 198, 199, 206, 207, 209, 210, 211, 212, 213, 214, 215, 216, 219, 220, 221, 222, 223, 224, 225, 226, 227, 228, 229, 231, 232, 233, 234, 235, 244, 246, 247, 248, 249, 250, 251, 253, 254, 256, 258, 259, 260, 261, 262, 264, 265, 268, 273, 276, 277, 278, 279, 280, 281, 282, 283, 284, 285, 286, 287, 288, 289, 290, 291, 292, 293, 302, 303, 310, 311, 312, 313, 315, 316, 317, 318, 320, 321, 322, 332, 333, 334, 335, 342, 343, 344, 345, 349, 353, 358]
theorem pkC {f : Nat} {l : List Nat} (h : progOk Tryz.prog [f] = true) (hl : progOk Tryz.prog l = true) : progOk Tryz.prog (f :: l) = true := by
 refine List.all_eq_true.2 fun g hg => ?_
 rcases List.mem_cons.1 hg with rfl | hg
 ·exact List.all_eq_true.1 h g (List.mem_singleton.2 rfl)
 ·exact List.all_eq_true.1 hl g hg
theorem pk5 : progOk Tryz.prog [5] = true := by kernel_rfl
theorem pk8 : progOk Tryz.prog [8] = true := by kernel_rfl
theorem pk9 : progOk Tryz.prog [9] = true := by kernel_rfl
theorem pk10 : progOk Tryz.prog [10] = true := by kernel_rfl
theorem pk11 : progOk Tryz.prog [11] = true := by kernel_rfl
theorem pk12 : progOk Tryz.prog [12] = true := by kernel_rfl
theorem pk13 : progOk Tryz.prog [13] = true := by kernel_rfl
theorem pk14 : progOk Tryz.prog [14] = true := by kernel_rfl
theorem pk15 : progOk Tryz.prog [15] = true := by kernel_rfl
theorem pk16 : progOk Tryz.prog [16] = true := by kernel_rfl
theorem pk17 : progOk Tryz.prog [17] = true := by kernel_rfl
theorem pk18 : progOk Tryz.prog [18] = true := by kernel_rfl
theorem pk19 : progOk Tryz.prog [19] = true := by kernel_rfl
theorem pk20 : progOk Tryz.prog [20] = true := by kernel_rfl
theorem pk21 : progOk Tryz.prog [21] = true := by kernel_rfl
theorem pk22 : progOk Tryz.prog [22] = true := by kernel_rfl
theorem pk23 : progOk Tryz.prog [23] = true := by kernel_rfl
theorem pk24 : progOk Tryz.prog [24] = true := by kernel_rfl
theorem pk25 : progOk Tryz.prog [25] = true := by kernel_rfl
theorem pk26 : progOk Tryz.prog [26] = true := by kernel_rfl
theorem pk27 : progOk Tryz.prog [27] = true := by kernel_rfl
theorem pk28 : progOk Tryz.prog [28] = true := by kernel_rfl
theorem pk29 : progOk Tryz.prog [29] = true := by kernel_rfl
theorem pk30 : progOk Tryz.prog [30] = true := by kernel_rfl
theorem pk31 : progOk Tryz.prog [31] = true := by kernel_rfl
theorem pk32 : progOk Tryz.prog [32] = true := by kernel_rfl
theorem pk33 : progOk Tryz.prog [33] = true := by kernel_rfl
theorem pk34 : progOk Tryz.prog [34] = true := by kernel_rfl
theorem pk35 : progOk Tryz.prog [35] = true := by kernel_rfl
theorem pk36 : progOk Tryz.prog [36] = true := by kernel_rfl
theorem pk37 : progOk Tryz.prog [37] = true := by kernel_rfl
theorem pk38 : progOk Tryz.prog [38] = true := by kernel_rfl
theorem pk39 : progOk Tryz.prog [39] = true := by kernel_rfl
theorem pk40 : progOk Tryz.prog [40] = true := by kernel_rfl
theorem pk42 : progOk Tryz.prog [42] = true := by kernel_rfl
theorem pk44 : progOk Tryz.prog [44] = true := by kernel_rfl
theorem pk45 : progOk Tryz.prog [45] = true := by kernel_rfl
theorem pk46 : progOk Tryz.prog [46] = true := by kernel_rfl
theorem pk47 : progOk Tryz.prog [47] = true := by kernel_rfl
theorem pk48 : progOk Tryz.prog [48] = true := by kernel_rfl
theorem pk49 : progOk Tryz.prog [49] = true := by kernel_rfl
theorem pk50 : progOk Tryz.prog [50] = true := by kernel_rfl
theorem pk51 : progOk Tryz.prog [51] = true := by kernel_rfl
theorem pk52 : progOk Tryz.prog [52] = true := by kernel_rfl
theorem pk53 : progOk Tryz.prog [53] = true := by kernel_rfl
theorem pk54 : progOk Tryz.prog [54] = true := by kernel_rfl
theorem pk55 : progOk Tryz.prog [55] = true := by kernel_rfl
theorem pk56 : progOk Tryz.prog [56] = true := by kernel_rfl
theorem pk57 : progOk Tryz.prog [57] = true := by kernel_rfl
theorem pk58 : progOk Tryz.prog [58] = true := by kernel_rfl
theorem pk59 : progOk Tryz.prog [59] = true := by kernel_rfl
theorem pk60 : progOk Tryz.prog [60] = true := by kernel_rfl
theorem pk61 : progOk Tryz.prog [61] = true := by kernel_rfl
theorem pk62 : progOk Tryz.prog [62] = true := by kernel_rfl
theorem pk63 : progOk Tryz.prog [63] = true := by kernel_rfl
theorem pk64 : progOk Tryz.prog [64] = true := by kernel_rfl
theorem pk65 : progOk Tryz.prog [65] = true := by kernel_rfl
theorem pk66 : progOk Tryz.prog [66] = true := by kernel_rfl
theorem pk67 : progOk Tryz.prog [67] = true := by kernel_rfl
theorem pk68 : progOk Tryz.prog [68] = true := by kernel_rfl
theorem pk69 : progOk Tryz.prog [69] = true := by kernel_rfl
theorem pk70 : progOk Tryz.prog [70] = true := by kernel_rfl
theorem pk71 : progOk Tryz.prog [71] = true := by kernel_rfl
theorem pk72 : progOk Tryz.prog [72] = true := by kernel_rfl
theorem pk73 : progOk Tryz.prog [73] = true := by kernel_rfl
theorem pk74 : progOk Tryz.prog [74] = true := by kernel_rfl
theorem pk75 : progOk Tryz.prog [75] = true := by kernel_rfl
theorem pk76 : progOk Tryz.prog [76] = true := by kernel_rfl
theorem pk77 : progOk Tryz.prog [77] = true := by kernel_rfl
theorem pk78 : progOk Tryz.prog [78] = true := by kernel_rfl
theorem pk79 : progOk Tryz.prog [79] = true := by kernel_rfl
theorem pk80 : progOk Tryz.prog [80] = true := by kernel_rfl
theorem pk81 : progOk Tryz.prog [81] = true := by kernel_rfl
theorem pk82 : progOk Tryz.prog [82] = true := by kernel_rfl
theorem pk84 : progOk Tryz.prog [84] = true := by kernel_rfl
theorem pk85 : progOk Tryz.prog [85] = true := by kernel_rfl
theorem pk86 : progOk Tryz.prog [86] = true := by kernel_rfl
theorem pk87 : progOk Tryz.prog [87] = true := by kernel_rfl
theorem pk88 : progOk Tryz.prog [88] = true := by kernel_rfl
theorem pk89 : progOk Tryz.prog [89] = true := by kernel_rfl
theorem pk90 : progOk Tryz.prog [90] = true := by kernel_rfl
theorem pk92 : progOk Tryz.prog [92] = true := by kernel_rfl
theorem pk93 : progOk Tryz.prog [93] = true := by kernel_rfl
theorem pk94 : progOk Tryz.prog [94] = true := by kernel_rfl
theorem pk95 : progOk Tryz.prog [95] = true := by kernel_rfl
theorem pk96 : progOk Tryz.prog [96] = true := by kernel_rfl
theorem pk97 : progOk Tryz.prog [97] = true := by kernel_rfl
theorem pk98 : progOk Tryz.prog [98] = true := by kernel_rfl
theorem pk99 : progOk Tryz.prog [99] = true := by kernel_rfl
theorem pk102 : progOk Tryz.prog [102] = true := by kernel_rfl
theorem pk104 : progOk Tryz.prog [104] = true := by kernel_rfl
theorem pk105 : progOk Tryz.prog [105] = true := by kernel_rfl
theorem pk106 : progOk Tryz.prog [106] = true := by kernel_rfl
theorem pk108 : progOk Tryz.prog [108] = true := by kernel_rfl
theorem pk109 : progOk Tryz.prog [109] = true := by kernel_rfl
theorem pk110 : progOk Tryz.prog [110] = true := by kernel_rfl
theorem pk111 : progOk Tryz.prog [111] = true := by kernel_rfl
theorem pk112 : progOk Tryz.prog [112] = true := by kernel_rfl
theorem pk113 : progOk Tryz.prog [113] = true := by kernel_rfl
theorem pk114 : progOk Tryz.prog [114] = true := by kernel_rfl
theorem pk115 : progOk Tryz.prog [115] = true := by kernel_rfl
theorem pk116 : progOk Tryz.prog [116] = true := by kernel_rfl
theorem pk117 : progOk Tryz.prog [117] = true := by kernel_rfl
theorem pk118 : progOk Tryz.prog [118] = true := by kernel_rfl
theorem pk120 : progOk Tryz.prog [120] = true := by kernel_rfl
theorem pk121 : progOk Tryz.prog [121] = true := by kernel_rfl
theorem pk122 : progOk Tryz.prog [122] = true := by kernel_rfl
theorem pk123 : progOk Tryz.prog [123] = true := by kernel_rfl
theorem pk124 : progOk Tryz.prog [124] = true := by kernel_rfl
theorem pk125 : progOk Tryz.prog [125] = true := by kernel_rfl
theorem pk126 : progOk Tryz.prog [126] = true := by kernel_rfl
theorem pk127 : progOk Tryz.prog [127] = true := by kernel_rfl
theorem pk128 : progOk Tryz.prog [128] = true := by kernel_rfl
theorem pk129 : progOk Tryz.prog [129] = true := by kernel_rfl
theorem pk131 : progOk Tryz.prog [131] = true := by kernel_rfl
theorem pk132 : progOk Tryz.prog [132] = true := by kernel_rfl
theorem pk133 : progOk Tryz.prog [133] = true := by kernel_rfl
theorem pk134 : progOk Tryz.prog [134] = true := by kernel_rfl
theorem pk135 : progOk Tryz.prog [135] = true := by kernel_rfl
theorem pk136 : progOk Tryz.prog [136] = true := by kernel_rfl
theorem pk137 : progOk Tryz.prog [137] = true := by kernel_rfl
theorem pk138 : progOk Tryz.prog [138] = true := by kernel_rfl
theorem pk139 : progOk Tryz.prog [139] = true := by kernel_rfl
theorem pk140 : progOk Tryz.prog [140] = true := by kernel_rfl
theorem pk149 : progOk Tryz.prog [149] = true := by kernel_rfl
theorem pk150 : progOk Tryz.prog [150] = true := by kernel_rfl
theorem pk152 : progOk Tryz.prog [152] = true := by kernel_rfl
theorem pk153 : progOk Tryz.prog [153] = true := by kernel_rfl
theorem pk154 : progOk Tryz.prog [154] = true := by kernel_rfl
theorem pk155 : progOk Tryz.prog [155] = true := by kernel_rfl
theorem pk156 : progOk Tryz.prog [156] = true := by kernel_rfl
theorem pk157 : progOk Tryz.prog [157] = true := by kernel_rfl
theorem pk158 : progOk Tryz.prog [158] = true := by kernel_rfl
theorem pk160 : progOk Tryz.prog [160] = true := by kernel_rfl
theorem pk161 : progOk Tryz.prog [161] = true := by kernel_rfl
theorem pk162 : progOk Tryz.prog [162] = true := by kernel_rfl
theorem pk163 : progOk Tryz.prog [163] = true := by kernel_rfl
theorem pk164 : progOk Tryz.prog [164] = true := by kernel_rfl
theorem pk166 : progOk Tryz.prog [166] = true := by kernel_rfl
theorem pk167 : progOk Tryz.prog [167] = true := by kernel_rfl
theorem pk168 : progOk Tryz.prog [168] = true := by kernel_rfl
theorem pk169 : progOk Tryz.prog [169] = true := by kernel_rfl
theorem pk170 : progOk Tryz.prog [170] = true := by kernel_rfl
theorem pk171 : progOk Tryz.prog [171] = true := by kernel_rfl
theorem pk172 : progOk Tryz.prog [172] = true := by kernel_rfl
theorem pk173 : progOk Tryz.prog [173] = true := by kernel_rfl
theorem pk174 : progOk Tryz.prog [174] = true := by kernel_rfl
theorem pk175 : progOk Tryz.prog [175] = true := by kernel_rfl
theorem pk176 : progOk Tryz.prog [176] = true := by kernel_rfl
theorem pk177 : progOk Tryz.prog [177] = true := by kernel_rfl
theorem pk178 : progOk Tryz.prog [178] = true := by kernel_rfl
theorem pk179 : progOk Tryz.prog [179] = true := by kernel_rfl
theorem pk180 : progOk Tryz.prog [180] = true := by kernel_rfl
theorem pk182 : progOk Tryz.prog [182] = true := by kernel_rfl
theorem pk183 : progOk Tryz.prog [183] = true := by kernel_rfl
theorem pk184 : progOk Tryz.prog [184] = true := by kernel_rfl
theorem pk185 : progOk Tryz.prog [185] = true := by kernel_rfl
theorem pk187 : progOk Tryz.prog [187] = true := by kernel_rfl
theorem pk188 : progOk Tryz.prog [188] = true := by kernel_rfl
theorem pk189 : progOk Tryz.prog [189] = true := by kernel_rfl
theorem pk190 : progOk Tryz.prog [190] = true := by kernel_rfl
theorem pk191 : progOk Tryz.prog [191] = true := by kernel_rfl
theorem pk192 : progOk Tryz.prog [192] = true := by kernel_rfl
theorem pk193 : progOk Tryz.prog [193] = true := by kernel_rfl
theorem pk194 : progOk Tryz.prog [194] = true := by kernel_rfl
theorem pk195 : progOk Tryz.prog [195] = true := by kernel_rfl
theorem pk196 : progOk Tryz.prog [196] = true := by kernel_rfl
theorem pk197 : progOk Tryz.prog [197] = true := by kernel_rfl
theorem pk198 : progOk Tryz.prog [198] = true := by kernel_rfl
theorem pk199 : progOk Tryz.prog [199] = true := by kernel_rfl
theorem pk206 : progOk Tryz.prog [206] = true := by kernel_rfl
theorem pk207 : progOk Tryz.prog [207] = true := by kernel_rfl
theorem pk209 : progOk Tryz.prog [209] = true := by kernel_rfl
theorem pk210 : progOk Tryz.prog [210] = true := by kernel_rfl
theorem pk211 : progOk Tryz.prog [211] = true := by kernel_rfl
theorem pk212 : progOk Tryz.prog [212] = true := by kernel_rfl
theorem pk213 : progOk Tryz.prog [213] = true := by kernel_rfl
theorem pk214 : progOk Tryz.prog [214] = true := by kernel_rfl
theorem pk215 : progOk Tryz.prog [215] = true := by kernel_rfl
theorem pk216 : progOk Tryz.prog [216] = true := by kernel_rfl
theorem pk219 : progOk Tryz.prog [219] = true := by kernel_rfl
theorem pk220 : progOk Tryz.prog [220] = true := by kernel_rfl
theorem pk221 : progOk Tryz.prog [221] = true := by kernel_rfl
theorem pk222 : progOk Tryz.prog [222] = true := by kernel_rfl
theorem pk223 : progOk Tryz.prog [223] = true := by kernel_rfl
theorem pk224 : progOk Tryz.prog [224] = true := by kernel_rfl
theorem pk225 : progOk Tryz.prog [225] = true := by kernel_rfl
theorem pk226 : progOk Tryz.prog [226] = true := by kernel_rfl
theorem pk227 : progOk Tryz.prog [227] = true := by kernel_rfl
theorem pk228 : progOk Tryz.prog [228] = true := by kernel_rfl
theorem pk229 : progOk Tryz.prog [229] = true := by kernel_rfl
theorem pk231 : progOk Tryz.prog [231] = true := by kernel_rfl
theorem pk232 : progOk Tryz.prog [232] = true := by kernel_rfl
theorem pk233 : progOk Tryz.prog [233] = true := by kernel_rfl
theorem pk234 : progOk Tryz.prog [234] = true := by kernel_rfl
theorem pk235 : progOk Tryz.prog [235] = true := by kernel_rfl
theorem pk244 : progOk Tryz.prog [244] = true := by kernel_rfl
theorem pk246 : progOk Tryz.prog [246] = true := by kernel_rfl
theorem pk247 : progOk Tryz.prog [247] = true := by kernel_rfl
theorem pk248 : progOk Tryz.prog [248] = true := by kernel_rfl
theorem pk249 : progOk Tryz.prog [249] = true := by kernel_rfl
theorem pk250 : progOk Tryz.prog [250] = true := by kernel_rfl
theorem pk251 : progOk Tryz.prog [251] = true := by kernel_rfl
theorem pk253 : progOk Tryz.prog [253] = true := by kernel_rfl
theorem pk254 : progOk Tryz.prog [254] = true := by kernel_rfl
theorem pk256 : progOk Tryz.prog [256] = true := by kernel_rfl
theorem pk258 : progOk Tryz.prog [258] = true := by kernel_rfl
theorem pk259 : progOk Tryz.prog [259] = true := by kernel_rfl
theorem pk260 : progOk Tryz.prog [260] = true := by kernel_rfl
theorem pk261 : progOk Tryz.prog [261] = true := by kernel_rfl
theorem pk262 : progOk Tryz.prog [262] = true := by kernel_rfl
theorem pk264 : progOk Tryz.prog [264] = true := by kernel_rfl
theorem pk265 : progOk Tryz.prog [265] = true := by kernel_rfl
theorem pk268 : progOk Tryz.prog [268] = true := by kernel_rfl
theorem pk273 : progOk Tryz.prog [273] = true := by kernel_rfl
theorem pk276 : progOk Tryz.prog [276] = true := by kernel_rfl
theorem pk277 : progOk Tryz.prog [277] = true := by kernel_rfl
theorem pk278 : progOk Tryz.prog [278] = true := by kernel_rfl
theorem pk279 : progOk Tryz.prog [279] = true := by kernel_rfl
theorem pk280 : progOk Tryz.prog [280] = true := by kernel_rfl
theorem pk281 : progOk Tryz.prog [281] = true := by kernel_rfl
theorem pk282 : progOk Tryz.prog [282] = true := by kernel_rfl
theorem pk283 : progOk Tryz.prog [283] = true := by kernel_rfl
theorem pk284 : progOk Tryz.prog [284] = true := by kernel_rfl
theorem pk285 : progOk Tryz.prog [285] = true := by kernel_rfl
theorem pk286 : progOk Tryz.prog [286] = true := by kernel_rfl
theorem pk287 : progOk Tryz.prog [287] = true := by kernel_rfl
theorem pk288 : progOk Tryz.prog [288] = true := by kernel_rfl
theorem pk289 : progOk Tryz.prog [289] = true := by kernel_rfl
theorem pk290 : progOk Tryz.prog [290] = true := by kernel_rfl
theorem pk291 : progOk Tryz.prog [291] = true := by kernel_rfl
theorem pk292 : progOk Tryz.prog [292] = true := by kernel_rfl
theorem pk293 : progOk Tryz.prog [293] = true := by kernel_rfl
theorem pk302 : progOk Tryz.prog [302] = true := by kernel_rfl
theorem pk303 : progOk Tryz.prog [303] = true := by kernel_rfl
theorem pk310 : progOk Tryz.prog [310] = true := by kernel_rfl
theorem pk311 : progOk Tryz.prog [311] = true := by kernel_rfl
theorem pk312 : progOk Tryz.prog [312] = true := by kernel_rfl
theorem pk313 : progOk Tryz.prog [313] = true := by kernel_rfl
theorem pk315 : progOk Tryz.prog [315] = true := by kernel_rfl
theorem pk316 : progOk Tryz.prog [316] = true := by kernel_rfl
theorem pk317 : progOk Tryz.prog [317] = true := by kernel_rfl
theorem pk318 : progOk Tryz.prog [318] = true := by kernel_rfl
theorem pk320 : progOk Tryz.prog [320] = true := by kernel_rfl
theorem pk321 : progOk Tryz.prog [321] = true := by kernel_rfl
theorem pk322 : progOk Tryz.prog [322] = true := by kernel_rfl
theorem pk332 : progOk Tryz.prog [332] = true := by kernel_rfl
theorem pk333 : progOk Tryz.prog [333] = true := by kernel_rfl
theorem pk334 : progOk Tryz.prog [334] = true := by kernel_rfl
theorem pk335 : progOk Tryz.prog [335] = true := by kernel_rfl
theorem pk342 : progOk Tryz.prog [342] = true := by kernel_rfl
theorem pk343 : progOk Tryz.prog [343] = true := by kernel_rfl
theorem pk344 : progOk Tryz.prog [344] = true := by kernel_rfl
theorem pk345 : progOk Tryz.prog [345] = true := by kernel_rfl
theorem pk349 : progOk Tryz.prog [349] = true := by kernel_rfl
theorem pk353 : progOk Tryz.prog [353] = true := by kernel_rfl
theorem pk358 : progOk Tryz.prog [358] = true := by kernel_rfl
theorem pkU : progOk Tryz.prog usedF = true := pkC pk5 (pkC pk8 (pkC pk9 (pkC pk10 (pkC pk11 (pkC pk12 (pkC pk13 (pkC pk14 (pkC pk15 (pkC pk16 (pkC pk17 (pkC pk18 (pkC pk19 (pkC pk20 (pkC pk21 (pkC pk22 (pkC pk23 (pkC pk24 (pkC pk25 (pkC pk26 (pkC pk27 (pkC pk28 (pkC pk29 (pkC pk30 (pkC pk31 (pkC pk32 (pkC pk33 (pkC pk34 (pkC pk35 (pkC pk36 (pkC pk37 (pkC pk38 (pkC pk39 (pkC pk40 (pkC pk42 (pkC pk44 (pkC pk45 (pkC pk46 (pkC pk47 (pkC pk48 (pkC pk49 (pkC pk50 (pkC pk51 (pkC pk52 (pkC pk53 (pkC pk54 (pkC pk55 (pkC pk56 (pkC pk57 (pkC pk58 (pkC pk59 (pkC pk60 (pkC pk61 (pkC pk62 (pkC pk63 (pkC pk64 (pkC pk65 (pkC pk66 (pkC pk67 (pkC pk68 (pkC pk69 (pkC pk70 (pkC pk71 (pkC pk72 (pkC pk73 (pkC pk74 (pkC pk75 (pkC pk76 (pkC pk77 (pkC pk78 (pkC pk79 (pkC pk80 (pkC pk81 (pkC pk82 (pkC pk84 (pkC pk85 (pkC pk86 (pkC pk87 (pkC pk88 (pkC pk89 (pkC pk90 (pkC pk92 (pkC pk93 (pkC pk94 (pkC pk95 (pkC pk96 (pkC pk97 (pkC pk98 (pkC pk99 (pkC pk102 (pkC pk104 (pkC pk105 (pkC pk106 (pkC pk108 (pkC pk109 (pkC pk110 (pkC pk111 (pkC pk112 (pkC pk113 (pkC pk114 (pkC pk115 (pkC pk116 (pkC pk117 (pkC pk118 (pkC pk120 (pkC pk121 (pkC pk122 (pkC pk123 (pkC pk124 (pkC pk125 (pkC pk126 (pkC pk127 (pkC pk128 (pkC pk129 (pkC pk131 (pkC pk132 (pkC pk133 (pkC pk134 (pkC pk135 (pkC pk136 (pkC pk137 (pkC pk138 (pkC pk139 (pkC pk140 (pkC pk149 (pkC pk150 (pkC pk152 (pkC pk153 (pkC pk154 (pkC pk155 (pkC pk156 (pkC pk157 (pkC pk158 (pkC pk160 (pkC pk161 (pkC pk162 (pkC pk163 (pkC pk164 (pkC pk166 (pkC pk167 (pkC pk168 (pkC pk169 (pkC pk170 (pkC pk171 (pkC pk172 (pkC pk173 (pkC pk174 (pkC pk175 (pkC pk176 (pkC pk177 (pkC pk178 (pkC pk179 (pkC pk180 (pkC pk182 (pkC pk183 (pkC pk184 (pkC pk185 (pkC pk187 (pkC pk188 (pkC pk189 (pkC pk190 (pkC pk191 (pkC pk192 (pkC pk193 (pkC pk194 (pkC pk195 (pkC pk196 (pkC pk197 (pkC pk198 (pkC pk199 (pkC pk206 (pkC pk207 (pkC pk209 (pkC pk210 (pkC pk211 (pkC pk212 (pkC pk213 (pkC pk214 (pkC pk215 (pkC pk216 (pkC pk219 (pkC pk220 (pkC pk221 (pkC pk222 (pkC pk223 (pkC pk224 (pkC pk225 (pkC pk226 (pkC pk227 (pkC pk228 (pkC pk229 (pkC pk231 (pkC pk232 (pkC pk233 (pkC pk234 (pkC pk235 (pkC pk244 (pkC pk246 (pkC pk247 (pkC pk248 (pkC pk249 (pkC pk250 (pkC pk251 (pkC pk253 (pkC pk254 (pkC pk256 (pkC pk258 (pkC pk259 (pkC pk260 (pkC pk261 (pkC pk262 (pkC pk264 (pkC pk265 (pkC pk268 (pkC pk273 (pkC pk276 (pkC pk277 (pkC pk278 (pkC pk279 (pkC pk280 (pkC pk281 (pkC pk282 (pkC pk283 (pkC pk284 (pkC pk285 (pkC pk286 (pkC pk287 (pkC pk288 (pkC pk289 (pkC pk290 (pkC pk291 (pkC pk292 (pkC pk293 (pkC pk302 (pkC pk303 (pkC pk310 (pkC pk311 (pkC pk312 (pkC pk313 (pkC pk315 (pkC pk316 (pkC pk317 (pkC pk318 (pkC pk320 (pkC pk321 (pkC pk322 (pkC pk332 (pkC pk333 (pkC pk334 (pkC pk335 (pkC pk342 (pkC pk343 (pkC pk344 (pkC pk345 (pkC pk349 (pkC pk353 (pkC pk358 (rfl)))))))))))))))))))))))))))))))))))))))))))))))))))))))))))))))))))))))))))))))))))))))))))))))))))))))))))))))))))))))))))))))))))))))))))))))))))))))))))))))))))))))))))))))))))))))))))))))))))))))))))))))))))))))))))))))))))))))))))))))))))))))))))))))))
theorem pkS {l : List Nat} (h : l.all (fun f => usedF.contains f) = true := by kernel_rfl) : progOk Tryz.prog l = true := by
 refine List.all_eq_true.2 fun f hf => ?_
 have h1 := List.all_eq_true.1 h f hf
 exact List.all_eq_true.1 pkU f (by simpa using h1)
theorem ents_nil {f : FuncId} : ∀ e ∈ ([] : List Ent), EntOk Tryz.prog f e := fun e h => by cases h
theorem ents_cons {f : FuncId} {e : Ent} {r : List Ent} (h : EntOk Tryz.prog f e) (hr : ∀ e ∈ r, EntOk Tryz.prog f e) : ∀ x ∈ e :: r, EntOk Tryz.prog f x := fun x hx => by
 rcases List.mem_cons.1 hx with rfl | hx
 ·exact h
 ·exact hr x hx
end Go.Proofs.YtlhlkjhjoalhoaaGreatDoor
