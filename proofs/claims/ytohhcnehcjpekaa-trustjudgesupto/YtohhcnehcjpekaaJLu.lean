/-
  The documented examples hold: one run of lives in the kernel, Agreed run ahead.
-/
import Derived.KernelRfl
import Derived.Test.YtohhcnehcjpekaaJSd
namespace Go.Proofs.Ytohhcnehcjpekaa
open Go Go.AM
set_option maxRecDepth 100000
def fsL : List FuncId := [9, 10, 15, 16, 18, 19, 23, 25, 26, 30, 35, 36, 40, 41, 45, 48, 49, 50, 51, 52, 53]
theorem pkL : progOk Try.prog fsL = true := by kernel_rfl
theorem pk21 : progOk Try.prog [21] = true := by kernel_rfl
theorem pk16 : progOk Try.prog [16] = true := by kernel_rfl
def tabL0 : List (FuncId × (List Value → AH → Option (Value × AH))) := [(12, c_clash), (20, c_same01), (28, c_kept), (38, c_anyOdd), (46, c_equal), (47, c_contains)]
theorem hCL0 : CallSound Try.prog (tabOf tabL0) := tab_sound (tab_cons con_clash (tab_cons con_same01 (tab_cons con_kept (tab_cons con_anyOdd (tab_cons con_equal (tab_cons con_contains tab_end))))))
def exA : List Value := saidC 0 1 3
def exB : List Value := saidC 1 2 5
def exL : List Value := exA ++ (saidC 1 1 4 ++ (saidC 2 1 3 ++ exB))
def exK : List Lk := T.K43 ++ (T.K43 ++ (T.K43 ++ T.K43))
def exV : Value := .slice (some ⟨0, 0, none⟩) 4 50
noncomputable def callL : Call' := callT Try.prog fsL (tabOf tabL0) 40
theorem callL_sound : CallSound Try.prog callL := callT_sound Fits pkL hCL0 40
theorem ag0 : runR Try.prog callL 400 16 [exV, .int .i64 0] [exL] = some (.slice (some ⟨1, 0, none⟩) 2 48, roRows 0 [exL] ++ newRows 1 [exA ++ exB]) := by kernel_rfl
theorem ag1 : runR Try.prog callL 400 16 [exV, .int .i64 1] [exL] = some (.slice (some ⟨1, 0, none⟩) 1 47, roRows 0 [exL] ++ newRows 1 [exA]) := by kernel_rfl
theorem ag2 : runR Try.prog callL 400 16 [exV, .int .i64 2] [exL] = some (.slice none 0 0, roRows 0 [exL] ++ newRows 1 []) := by kernel_rfl
def spec_ag : Go.AM.Spec := fun us cs => match us, cs with
 | [s, .int .i64 n], [c] => if slOk 0 46 c s && cf exK c && eqCs c exL then (match n with
  | .ofNat 0 => some (.slice (some ⟨1, 0, none⟩) 2 48, [exA ++ exB])
  | .ofNat 1 => some (.slice (some ⟨1, 0, none⟩) 1 47, [exA])
  | .ofNat 2 => some (.slice none 0 0, [])
  | _ => none) else none
 | _, _ => none
def c_ag := flatC [.sl 46, .fr] spec_ag
theorem con_ag : Con Try.prog 16 c_ag := con_run Fits pk16 callL_sound Try.func16 rfl fun us cs v new h => by
 unfold spec_ag at h
 split at h
 case h_2 => cases h
 rename_i s n c
 split at h
 case isFalse => cases h
 rename_i hc
 simp only [Bool.and_eq_true] at hc
 obtain ⟨⟨h1, h2⟩, h3⟩ := hc
 have e := (eqCs_iff h2).1 h3
 subst e
 have hs := slOk_sl (n := 4) h1 (by decide) (by kernel_rfl)
 have hs := hs.pos (by decide)
 subst hs
 split at h
 ·cases h; exact ag0
 ·cases h; exact ag1
 ·cases h; exact ag2
 ·cases h
def tabL : List (FuncId × (List Value → AH → Option (Value × AH))) := (16, c_ag) :: tabL0
theorem hCL : CallSound Try.prog (tabOf tabL) := tab_sound (tab_cons con_ag (tab_cons con_clash (tab_cons con_same01 (tab_cons con_kept (tab_cons con_anyOdd (tab_cons con_equal (tab_cons con_contains tab_end)))))))
theorem lives_run : runR Try.prog (callT Try.prog fsL (tabOf tabL) 40) 400 21 [] [] = some (.bool true, roRows 0 [] ++ newRows 0 []) := by kernel_rfl
def spec_lives : Go.AM.Spec := fun us cs => match us, cs with
 | [], [] => some (.bool true, [])
 | _, _ => none
def c_lives := flatC [] spec_lives
theorem con_lives : Con Try.prog 21 c_lives := con_run Fits pk21 (callT_sound Fits pkL hCL 40) Try.func21 rfl fun us cs v new h => by
 unfold spec_lives at h
 split at h
 ·cases h
  exact lives_run
 ·cases h
theorem lives_c {H : AH} : c_lives [] H = some (.bool true, H) := rfl
end Go.Proofs.Ytohhcnehcjpekaa
