/-
  The runs through the sets of workers, in the kernel: what an oracle says of a set decides where a run ends.
-/
import Derived.Test.YtohhcnehcjpekaaCLs
namespace Go.Proofs.Ytohhcnehcjpekaa
open Go Go.AM
set_option maxRecDepth 100000
def combs : Nat → List Int → List (List Int)
 | 0, _ => [[]]
 | _ + 1, [] => []
 | k + 1, x :: r => (combs k r).map (x :: ·) ++ combs (k + 1) r
def six : List Int := [0, 1, 2, 3, 4, 5]
def gT (pre : List (List Int)) (T : Option (List Int)) : List Int → Option Bool := fun w => if pre.contains w then some false else if some w == T then some true else none
def oraX (L : List (List Value)) (g : List Int → Option Bool) : Call' := fun f args h => if 5 < h.next then oraL L g f args h else none
def h48 (L : List (List Value)) (s_L : Value) (size : Int) (e : Tr Value) (ps : Array Tmp) (a b : Code) : AH := ⟨Tr.ofList [.row L.flatten 0 BIG true L.flatten.length, .row [s_L] 1 BIG false 1, .row [.slice none 0 0] 2 BIG false 1, .row [.int .i64 0] 3 BIG false 1, .row [.int .i64 size] 4 BIG false 1, .loop ⟨.ready, none, e, 22, ps, a, b⟩] 0 .leaf, 6, 4⟩
noncomputable def run48 (L : List (List Value)) (s_L : Value) (e : Tr Value) (ps : Array Tmp) (a b : Code) (size : Nat) (g : List Int → Option Bool) : Option (Value × AH) := callU Try.prog [48, 49, 50] (oraX L g) 60 (.func 48) [.func (.yield 5) #[] #[], .pointer (some ⟨4, 0, none⟩)] (h48 L s_L size e ps a b)
def goodMiss : Option (Value × AH) → Bool
 | some (_, h) => Nat.ble 4 h.wr && Nat.ble 6 h.next && (match h.t.get 5 with | some (.loop r) => (match r.state, r.pending with | .ready, none => true | _, _ => false) | _ => false)
 | _ => false
def goodSet (h : AH) (T : List Int) : Value → Bool
 | .slice none 0 0 => T.isEmpty
 | .slice (some ⟨id, 0, none⟩) n c => Nat.ble 6 id && Nat.blt id h.next && n == T.length && Nat.blt 0 n && c == n + 1 && setOf h (.slice (some ⟨id, 0, none⟩) n c) == some T
 | _ => false
def goodHit (T : List Int) : Option (Value × AH) → Bool
 | some (_, h) => Nat.ble 2 h.wr && Nat.ble 6 h.next && (match h.t.get 5 with | some (.loop r) => (match r.state, r.pending with | .done, some .ret => true | _, _ => false) | _ => false) &&
   (match h.t.get 2 with | some (.row [s] c2 _ false 1) => c2 == 2 && goodSet h T s | _ => false) && (match h.t.get 3 with | some (.row [.int .i64 0] c3 _ false 1) => c3 == 3 | _ => false)
 | _ => false
section
variable (L : List (List Value)) (s_L : Value) (e : Tr Value) (ps : Array Tmp) (a b : Code)
noncomputable def missRun (s : Nat) : Bool := goodMiss (run48 L s_L e ps a b s (gT (combs s six) none))
noncomputable def hitRun (s k : Nat) : Bool := goodHit ((combs s six).getD k []) (run48 L s_L e ps a b s (gT ((combs s six).take k) (some ((combs s six).getD k []))))
theorem miss0 : missRun L s_L e ps a b 0 = true := by kernel_rfl
theorem miss1 : missRun L s_L e ps a b 1 = true := by kernel_rfl
theorem miss2 : missRun L s_L e ps a b 2 = true := by kernel_rfl
theorem miss3 : missRun L s_L e ps a b 3 = true := by kernel_rfl
theorem miss4 : missRun L s_L e ps a b 4 = true := by kernel_rfl
theorem miss5 : missRun L s_L e ps a b 5 = true := by kernel_rfl
theorem miss6 : missRun L s_L e ps a b 6 = true := by kernel_rfl
theorem hit0 : (List.range (combs 0 six).length).all (hitRun L s_L e ps a b 0) = true := by kernel_rfl
theorem hit1 : (List.range (combs 1 six).length).all (hitRun L s_L e ps a b 1) = true := by kernel_rfl
theorem hit2 : (List.range (combs 2 six).length).all (hitRun L s_L e ps a b 2) = true := by kernel_rfl
theorem hit3 : (List.range (combs 3 six).length).all (hitRun L s_L e ps a b 3) = true := by kernel_rfl
theorem hit4 : (List.range (combs 4 six).length).all (hitRun L s_L e ps a b 4) = true := by kernel_rfl
theorem hit5 : (List.range (combs 5 six).length).all (hitRun L s_L e ps a b 5) = true := by kernel_rfl
theorem hit6 : (List.range (combs 6 six).length).all (hitRun L s_L e ps a b 6) = true := by kernel_rfl
theorem miss_all {s : Nat} (hs : s ≤ 6) : missRun L s_L e ps a b s = true := by
 rcases (by omega : s = 0 ∨ s = 1 ∨ s = 2 ∨ s = 3 ∨ s = 4 ∨ s = 5 ∨ s = 6) with rfl | rfl | rfl | rfl | rfl | rfl | rfl
 ·exact miss0 L s_L e ps a b
 ·exact miss1 L s_L e ps a b
 ·exact miss2 L s_L e ps a b
 ·exact miss3 L s_L e ps a b
 ·exact miss4 L s_L e ps a b
 ·exact miss5 L s_L e ps a b
 ·exact miss6 L s_L e ps a b
theorem hit_all {s k : Nat} (hs : s ≤ 6) (hk : k < (combs s six).length) : hitRun L s_L e ps a b s k = true := by
 have key : (List.range (combs s six).length).all (hitRun L s_L e ps a b s) = true := by
  rcases (by omega : s = 0 ∨ s = 1 ∨ s = 2 ∨ s = 3 ∨ s = 4 ∨ s = 5 ∨ s = 6) with rfl | rfl | rfl | rfl | rfl | rfl | rfl
  ·exact hit0 L s_L e ps a b
  ·exact hit1 L s_L e ps a b
  ·exact hit2 L s_L e ps a b
  ·exact hit3 L s_L e ps a b
  ·exact hit4 L s_L e ps a b
  ·exact hit5 L s_L e ps a b
  ·exact hit6 L s_L e ps a b
 exact List.all_eq_true.1 key k (List.mem_range.2 hk)
end
theorem combs_len : ∀ {k : Nat} {l w : List Int}, w ∈ combs k l → w.length = k ∧ w.length ≤ l.length
 | 0, l, w, h => by simp only [combs, List.mem_singleton] at h; subst h; simp
 | k + 1, [], w, h => by simp [combs] at h
 | k + 1, x :: r, w, h => by
  simp only [combs, List.mem_append, List.mem_map] at h
  rcases h with ⟨v, hv, rfl⟩ | h
  ·have := combs_len hv; simp; omega
  ·have := combs_len h; simp; omega
theorem gT_ok {L : List (List Value)} {s : Nat} {pre : List (List Int)} {T : Option (List Int)} (hp : ∀ w ∈ pre, w ∈ combs s six ∧ explainL L w = false) (hT : ∀ w, T = some w → w ∈ combs s six ∧ explainL L w = true) :
  ∀ w b, gT pre T w = some b → explainL L w = b ∧ w.length ≤ 6 := by
 intro w b h
 unfold gT at h
 split at h
 ·rename_i hc
  cases h
  have := hp w (List.contains_iff_mem.1 hc)
  exact ⟨this.2, (combs_len this.1).2⟩
 ·split at h
  ·rename_i hc
   cases h
   have := hT w (beq_iff_eq.1 hc).symm
   exact ⟨this.2, (combs_len this.1).2⟩
  ·cases h
theorem pkF : progOk Try.prog [48, 49, 50] = true := by kernel_rfl
theorem run_meets {L : List (List Value)} {s_L : Value} {e : Tr Value} {g : List Int → Option Bool} {s : Nat} {v : Value} {h' : AH} (hb : L.length ≤ 1000) (h0 : 0 < L.length) (h_L : cfs T.K43 L) (hs_L : Sl 0 46 L.length s_L) (hnl : isNilS s_L = false)
  (e1 : e.get 1 = some (.pointer (some ⟨1, 0, none⟩))) (e2 : e.get 2 = some (.pointer (some ⟨2, 0, none⟩))) (e3 : e.get 3 = some (.pointer (some ⟨3, 0, none⟩))) (hg : ∀ w b, g w = some b → explainL L w = b ∧ w.length ≤ 6)
  (hr : run48 L s_L e #[13] A18 B18 s g = some (v, h')) (hw : 2 ≤ h'.wr) : Meets Try.prog (.func 48) [.func (.yield 5) #[] #[], .pointer (some ⟨4, 0, none⟩)] (h48 L s_L s e #[13] A18 B18) v h' :=
 ora_meets Fits pkF tabS_sound (oraL_ora (r0 := ⟨.ready, none, e, 22, #[13], A18, B18⟩) hb h0 h_L hs_L hnl rfl rfl rfl rfl e1 e2 e3 hg) invL ⟨rfl, rfl, ⟨_, rfl, .refl _⟩, Nat.le_of_ble_eq_true rfl⟩ hr hw
end Go.Proofs.Ytohhcnehcjpekaa
