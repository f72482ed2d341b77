/-
  Steps of the proof.
-/
import Derived.Test.YtfgmplbclpadbaaGreatDoorME0
set_option linter.unusedSimpArgs false
set_option linter.unusedVariables false
namespace Go.Proofs.YtfgmplbclpadbaaGreatDoor
open Go Go.AM
set_option maxRecDepth 100000
set_option maxHeartbeats 0
def e46 : Ent := ⟨[uI 3, uS 0 2 2], [o21], .agg ⟨[uB 157, uB 112, uB 60, uB 77, uB 17, uB 232, uB 247, uB 130, uB 232, uB 4, uB 185, uB 87, uB 215, uB 119, uB 251, uB 250]⟩, []⟩
noncomputable def call46 : Call' := cK [225, 226, 46, 227] [(69, entC [e41, e42]), (285, entS spec_compress)]
theorem cs46 : CallSound Tryz.prog call46 := cS (tab_sound (tab_cons (con_ents Tryz.func69 rfl (ents_cons ok41 (ents_cons ok42 ents_nil))) (tab_cons con_compress tab_end)))
theorem ok46 : EntOk Tryz.prog 144 e46 := rE cs46
def e48 : Ent := ⟨[uI 4, uS 0 2 2], [.row [uT [160, 135, 235, 191, 86, 229, 78, 181, 80, 30, 187, 104, 103, 224, 122, 207], uT [157, 112, 60, 77, 17, 232, 247, 130, 232, 4, 185, 87, 215, 119, 251, 250]] 0 BIG true 2], .agg ⟨[uB 160, uB 44, uB 173, uB 134, uB 88, uB 103, uB 190, uB 164, uB 23, uB 58, uB 46, uB 179, uB 157, uB 202, uB 197, uB 88]⟩, []⟩
noncomputable def call48 : Call' := cK [225, 226, 46, 227] [(69, entC [e42]), (285, entS spec_compress)]
theorem cs48 : CallSound Tryz.prog call48 := cS (tab_sound (tab_cons (cE1 Tryz.func69 ok42) (tab_cons con_compress tab_end)))
theorem ok48 : EntOk Tryz.prog 144 e48 := rE cs48
def e50 : Ent := ⟨[uI 3, uS 0 2 2], [o22], .agg ⟨[uB 221, uB 102, uB 78, uB 232, uB 5, uB 72, uB 177, uB 96, uB 207, uB 76, uB 125, uB 40, uB 60, uB 11, uB 236, uB 231]⟩, []⟩
noncomputable def call50 : Call' := cK [225, 226, 46, 227] [(69, entC [e41, e42]), (285, entS spec_compress)]
theorem cs50 : CallSound Tryz.prog call50 := cS (tab_sound (tab_cons (con_ents Tryz.func69 rfl (ents_cons ok41 (ents_cons ok42 ents_nil))) (tab_cons con_compress tab_end)))
theorem ok50 : EntOk Tryz.prog 144 e50 := rE cs50
def e52 : Ent := ⟨[uI 4, uS 0 2 2], [.row [uT [160, 44, 173, 134, 88, 103, 190, 164, 23, 58, 46, 179, 157, 202, 197, 88], uT [221, 102, 78, 232, 5, 72, 177, 96, 207, 76, 125, 40, 60, 11, 236, 231]] 0 BIG true 2], .agg ⟨[uB 77, uB 201, uB 120, uB 251, uB 13, uB 132, uB 138, uB 146, uB 243, uB 232, uB 30, uB 39, uB 164, uB 113, uB 247, uB 138]⟩, []⟩
noncomputable def call52 : Call' := cK [225, 226, 46, 227] [(69, entC [e42]), (285, entS spec_compress)]
theorem cs52 : CallSound Tryz.prog call52 := cS (tab_sound (tab_cons (cE1 Tryz.func69 ok42) (tab_cons con_compress tab_end)))
theorem ok52 : EntOk Tryz.prog 144 e52 := rE cs52
def e54 : Ent := ⟨[uI 4, uS 0 2 2], [.row [uT [129, 3], uT [77, 201, 120, 251, 13, 132, 138, 146, 243, 232, 30, 39, 164, 113, 247, 138]] 0 BIG true 2], .agg ⟨[uB 130, uB 250, uB 244, uB 151, uB 173, uB 135, uB 244, uB 149, uB 186, uB 153, uB 190, uB 109, uB 208, uB 59, uB 81, uB 83]⟩, []⟩
noncomputable def call54 : Call' := cK [225, 226, 46, 227] [(69, entC [e7, e42]), (285, entS spec_compress)]
theorem cs54 : CallSound Tryz.prog call54 := cS (tab_sound (tab_cons (con_ents Tryz.func69 rfl (ents_cons ok7 (ents_cons ok42 ents_nil))) (tab_cons con_compress tab_end)))
theorem ok54 : EntOk Tryz.prog 144 e54 := rE cs54
end Go.Proofs.YtfgmplbclpadbaaGreatDoor
