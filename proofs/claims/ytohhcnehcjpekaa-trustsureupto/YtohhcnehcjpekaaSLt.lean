/-
  The law TrustLeft: her walk.
-/
import Derived.Test.YtohhcnehcjpekaaSLp
import Derived.Test.YtohhcnehcjpekaaSA3
namespace Go.Proofs.Ytohhcnehcjpekaa
open Go.AM
set_option maxRecDepth 100000
set_option maxHeartbeats 1000000
set_option linter.unusedSimpArgs false
set_option linter.unusedVariables false

theorem sl_one2 {i k n i' k' n' : Nat} {s s' : Value} (h : Sl i k n s) (h' : Sl i' k' n' s') : [s, s'].all oneC = true := by
  obtain ⟨a, c, rfl⟩ := h.shape
  obtain ⟨a', c', rfl⟩ := h'.shape
  rfl
theorem mout0 {H : AH} {n m k k' b c : Nat} {d1 d2 : List Value} (h : n = 0) (h' : m = 0) : some (Value.tuple ⟨[outV b k n, outV c k' m]⟩, addRows H (outN n d1 ++ outN m d2)) = some (.tuple ⟨[.slice none 0 0, .slice none 0 0]⟩, H) := by
  subst h'; subst h; rfl
theorem mout1 {n m k k' : Nat} {d1 d2 : List Value} {t : Tr AObj} {nx wr : Nat} (h : 0 < n) (h' : 0 < m) : some (Value.tuple ⟨[outV nx k n, outV (nx + 1) k' m]⟩, addRows ⟨t, nx, wr⟩ (outN n d1 ++ outN m d2)) =
    some (.tuple ⟨[.slice (some ⟨nx, 0, none⟩) n (n + k), .slice (some ⟨nx + 1, 0, none⟩) m (m + k')]⟩, ⟨(t.set nx (.row d1 nx BIG false d1.length)).set (nx + 1) (.row d2 (nx + 1) BIG false d2.length), nx + 1 + 1, wr⟩) := by
  rw [outV_ne (by omega), outV_ne (by omega), outN_ne (by omega), outN_ne (by omega)]; rfl
theorem made_c0 {H : AH} {s_l : Value} {l : List Int} {most bits : Int} {A R : List (List Value)} (hA : A = mkA l bits (min (l.length : Int) most)) (hR : R = mkR l (min (l.length : Int) most)) (hr : Rd H 1 s_l l.length (ints l)) (hok : ok_made l most bits = true) (h : A.length = 0) (h' : R.length = 0) :
    c_made [s_l, .int .i64 most, .int .i64 bits] H = some (.tuple ⟨[.slice none 0 0, .slice none 0 0]⟩, H) := by
  subst hA; subst hR
  exact (made_c hr hok).trans (mout0 h h')
theorem made_c1 {t : Tr AObj} {nx wr : Nat} {s_l : Value} {l : List Int} {most bits : Int} {A R : List (List Value)} (hA : A = mkA l bits (min (l.length : Int) most)) (hR : R = mkR l (min (l.length : Int) most)) (hr : Rd ⟨t, nx, wr⟩ 1 s_l l.length (ints l)) (hok : ok_made l most bits = true) (h : 0 < A.length) (h' : 0 < R.length) :
    c_made [s_l, .int .i64 most, .int .i64 bits] ⟨t, nx, wr⟩ = some (.tuple ⟨[.slice (some ⟨nx, 0, none⟩) A.length (A.length + 46), .slice (some ⟨nx + 1, 0, none⟩) R.length (R.length + 22)]⟩, ⟨(t.set nx (.row A.flatten nx BIG false A.flatten.length)).set (nx + 1) (.row R.flatten (nx + 1) BIG false R.flatten.length), nx + 1 + 1, wr⟩) := by
  subst hA; subst hR
  exact (made_c hr hok).trans (mout1 h h')
theorem judge_c0 {H : AH} {s_L s_R : Value} {L R : List (List Value)} (hr_L : Rd H 46 s_L L.length L.flatten) (h_L : cfs T.K43 L) (hr_R : Rd H 22 s_R R.length R.flatten) (h_R : cfs T.K41 R) (hb : L.length ≤ 1000) (hE : judgeE L R = 0) (hW : (judgeW L R).length = 0) :
    c_judge [s_L, s_R] H = some (.tuple ⟨[.agg ⟨[.slice none 0 0, .slice none 0 0]⟩, .int .i64 0]⟩, H) := by
  have q := judge_c hr_L h_L hr_R h_R (by rw [ok_judge, decide_eq_true hb])
  rw [hE] at q
  exact q.trans (jout0 hW judge_len)
theorem judge_c1 {t : Tr AObj} {nx wr : Nat} {s_L s_R : Value} {L R : List (List Value)} {W AA : List Int} (hWd : W = judgeW L R) (hAAd : AA = judgeA L R) (hr_L : Rd ⟨t, nx, wr⟩ 46 s_L L.length L.flatten) (h_L : cfs T.K43 L) (hr_R : Rd ⟨t, nx, wr⟩ 22 s_R R.length R.flatten) (h_R : cfs T.K41 R) (hb : L.length ≤ 1000) (hE : judgeE L R = 0) (hW : 0 < W.length) :
    c_judge [s_L, s_R] ⟨t, nx, wr⟩ = some (.tuple ⟨[.agg ⟨[.slice (some ⟨nx, 0, none⟩) W.length (W.length + 1), .slice (some ⟨nx + 1, 0, none⟩) AA.length (AA.length + 1)]⟩, .int .i64 0]⟩, ⟨(t.set nx (.row (ints W) nx BIG false (ints W).length)).set (nx + 1) (.row (ints AA) (nx + 1) BIG false (ints AA).length), nx + 1 + 1, wr⟩) := by
  have q := judge_c hr_L h_L hr_R h_R (by rw [ok_judge, decide_eq_true hb])
  subst hWd; subst hAAd
  rw [hE] at q
  exact q.trans (jout1 hW judge_len)
theorem wrong33_cF {H : AH} {x : List Value} (h_x : cf T.K43 x = true) (hn : inR (intAt (askC x) 20)) (h : wrongB x = false) : c_wrong33 [.agg ⟨x⟩] H = some (.bool false, H) := by
  have q := wrong33_c (H := H) h_x (by rw [ok_wrong33]; exact decide_eq_true hn)
  rw [h] at q
  exact q
theorem in_cF {H : AH} {s_l : Value} {l : List Int} {n : Int} (hr : Rd H 1 s_l l.length (ints l)) (hb : l.length < 4611686018427387904) (h : ¬ n ∈ l) : c_in [s_l, .int .i64 n] H = some (.bool false, H) := by
  have q := in_c (n := n) hr (by rw [ok_in, decide_eq_true hb])
  rw [decide_eq_false h] at q
  exact q
theorem same01_cT {H : AH} {s_l s_m : Value} {l m : List Int} (hr_l : Rd H 1 s_l l.length (ints l)) (hr_m : Rd H 1 s_m m.length (ints m)) (hb : l.length < 4611686018427387904) (h : l = m) : c_same01 [s_l, s_m] H = some (.bool true, H) := by
  have q := same01_c hr_l hr_m (by rw [ok_same01, decide_eq_true hb])
  rw [decide_eq_true h] at q
  exact q
theorem kept_c0 {t : Tr AObj} {nx wr : Nat} {s_w s_a : Value} {w a : List Int} (hr_w : Rd ⟨t, nx, wr⟩ 1 s_w w.length (ints w)) (hr_a : Rd ⟨t, nx, wr⟩ 1 s_a a.length (ints a)) (hw : w.length < 4611686018427387904) :
    c_kept [.slice none 0 0, .agg ⟨[s_w, s_a]⟩] ⟨t, nx, wr⟩ = some (.slice none 0 0, ⟨t, nx, wr⟩) := kept_c (L := []) (nl := true) rd_nil cfs_nil rfl hr_w hr_a (by rw [ok_kept, Bool.and_eq_true, decide_eq_true_eq, decide_eq_true_eq]; exact ⟨Nat.zero_le _, hw⟩)
theorem kept_c1 {t : Tr AObj} {nx wr : Nat} {s_L s_w s_a : Value} {L : List (List Value)} {w a : List Int} (hr_L : Rd ⟨t, nx, wr⟩ 46 s_L L.length L.flatten) (h_L : cfs T.K43 L) (e : isNilS s_L = false) (hr_w : Rd ⟨t, nx, wr⟩ 1 s_w w.length (ints w)) (hr_a : Rd ⟨t, nx, wr⟩ 1 s_a a.length (ints a)) (hb : L.length ≤ 1000) (h0 : 0 < L.length) (hw : w.length < 4611686018427387904) :
    c_kept [s_L, .agg ⟨[s_w, s_a]⟩] ⟨t, nx, wr⟩ = some (.slice (some ⟨nx, 0, none⟩) (keptL w L).length ((keptL w L).length + 46), ⟨t.set nx (.row (keptZ L w).flatten nx BIG false (keptZ L w).flatten.length), nx + 1, wr⟩) := by
  have q := kept_c hr_L h_L e hr_w hr_a (by rw [ok_kept, Bool.and_eq_true, decide_eq_true_eq, decide_eq_true_eq]; exact ⟨hb, hw⟩)
  rw [if_neg (by omega : ¬ L.length = 0), delD_flat] at q
  exact q


end Go.Proofs.Ytohhcnehcjpekaa
