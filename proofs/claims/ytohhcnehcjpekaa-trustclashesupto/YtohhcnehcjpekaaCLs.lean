/-
  Contracts: the least explanation: a round of its loop, and the runs through the sets.
-/
import Derived.KernelRfl
import Derived.Test.YtohhcnehcjpekaaCLt
namespace Go.Proofs.Ytohhcnehcjpekaa
open Go Go.AM
set_option maxRecDepth 100000
set_option linter.unusedVariables false
section
variable {P : Program} {call : Call'} {rd : Bool} {n : Nat} {a b : Code} {st s : St} {r : Ex × St}
def XK (P : Program) (call : Call') (rd : Bool) (n : Nat) (c : Code) (st : St) (Q : Ex × St → Prop) : Prop := ∃ r, exec P call rd n c st = some r ∧ Q r
theorem xk_reg {i : Nat} {ops : Array Oper} {Q : Ex × St → Prop} (h : OpsK P call ops ops.toList st (fun s => Q (.normal, s))) : XK P call rd (n + 1) (.region i ops false) st Q := by
 obtain ⟨s, h1, h2⟩ := h
 refine ⟨(.normal, s), ?_, h2⟩
 show (if false then _ else runOps P call ops ops.toList st).map _ = _
 simp only [Bool.false_eq_true, if_false, h1, Option.map_some]
def seqQ (P : Program) (call : Call') (rd : Bool) (n : Nat) (b : Code) (Q : Ex × St → Prop) : Ex × St → Prop
 | (.normal, s) => XK P call rd n b s Q
 | r => Q r
theorem xk_seq {Q : Ex × St → Prop} (h : XK P call rd n a st (seqQ P call rd n b Q)) : XK P call rd (n + 1) (.seq a b) st Q := by
 obtain ⟨⟨ex, s⟩, h1, h2⟩ := h
 cases ex with
 | normal =>
  obtain ⟨r, h3, h4⟩ := h2
  exact ⟨r, by simp only [exec, h1, h3], h4⟩
 | exit i => exact ⟨_, by simp only [exec, h1], h2⟩
 | ret => exact ⟨_, by simp only [exec, h1], h2⟩
def blockQ (id : Nat) (Q : Ex × St → Prop) : Ex × St → Prop
 | (.exit i, s) => if i = id then Q (.normal, s) else Q (.exit i, s)
 | r => Q r
theorem xk_block {id : Nat} {Q : Ex × St → Prop} (h : XK P call rd n b st (blockQ id Q)) : XK P call rd (n + 1) (.block id b) st Q := by
 obtain ⟨⟨ex, s⟩, h1, h2⟩ := h
 cases ex with
 | normal => exact ⟨_, by simp only [exec, h1], h2⟩
 | exit i =>
  simp only [blockQ] at h2
  split at h2
  ·rename_i hi; exact ⟨(.normal, s), by simp only [exec, h1, if_pos hi], h2⟩
  ·rename_i hi; exact ⟨(.exit i, s), by simp only [exec, h1, if_neg hi], h2⟩
 | ret => exact ⟨_, by simp only [exec, h1], h2⟩
theorem xk_cond {c : Operand} {x y : Code} {q : Bool} {Q : Ex × St → Prop} (hc : ev st.e c = some (.bool q)) (h : XK P call rd n (if q then x else y) st Q) : XK P call rd (n + 1) (.cond c x y) st Q := by
 obtain ⟨r, h1, h2⟩ := h
 exact ⟨r, by simp only [exec, hc]; exact h1, h2⟩
theorem xk_ret {Q : Ex × St → Prop} (h : Q (.ret, st)) : XK P call rd (n + 1) .ret st Q := ⟨_, rfl, h⟩
theorem xk_skip {Q : Ex × St → Prop} (h : Q (.normal, st)) : XK P call rd (n + 1) .skip st Q := ⟨_, rfl, h⟩
end
def rangeOf : Code → Option (Array Tmp × Code × Code)
 | .rangeFunc _ ps a b => some (ps, a, b)
 | .seq a b => match rangeOf a with | some x => some x | none => rangeOf b
 | .cond _ a b => match rangeOf a with | some x => some x | none => rangeOf b
 | .block _ b => rangeOf b
 | .loop b => rangeOf b
 | _ => none
noncomputable def A18 : Code := match Try.f18.body.bind rangeOf with | some (_, a, _) => a | none => .skip
noncomputable def B18 : Code := match Try.f18.body.bind rangeOf with | some (_, _, b) => b | none => .skip
def setOf (h : AH) : Value → Option (List Int)
 | .slice none 0 0 => some []
 | .slice (some ⟨id, 0, none⟩) n c =>
  match h.t.get id with
  | some (.row d cur low false n0) => if cur == id && n0 == d.length && n == d.length && isInts d && (c == n || c == n + 1) then some (unints d) else none
  | _ => none
 | _ => none
theorem setOf_rd {h : AH} {s : Value} {w : List Int} (hs : setOf h s = some w) {h' : AH} (hk : ∀ id d cur low ro n0, h.t.get id = some (.row d cur low ro n0) → h'.t.get id = h.t.get id) : Rd h' 1 s w.length (ints w) := by
 unfold setOf at hs
 split at hs
 ·cases hs; exact rd_nil
 ·rename_i id n c
  split at hs
  case h_2 => cases hs
  rename_i d cur low n0 hg
  split at hs
  case isFalse => cases hs
  rename_i hc
  simp only [Bool.and_eq_true, beq_iff_eq, Bool.or_eq_true] at hc
  obtain ⟨⟨⟨⟨rfl, rfl⟩, rfl⟩, hd⟩, hcc⟩ := hc
  cases hs
  have e := ints_unints hd
  have hl : (unints d).length = d.length := by rw [← ints_len, e]
  rw [e, hl]
  refine rd_row (by decide) hcc (l_all (whole_row (by rw [hk _ _ _ _ _ _ hg]; exact hg) rfl) (by omega)) ?_
  rw [← e]
  exact ints_free0 _
 ·cases hs
structure Rnd (L : List (List Value)) (s_L : Value) (r : ALoop) (h : AH) : Prop where
 g0 : h.t.get 0 = some (.row L.flatten 0 BIG true L.flatten.length)
 g1 : h.t.get 1 = some (.row [s_L] 1 BIG false 1)
 hl : h.t.get 5 = some (.loop r)
 sz : r.sz = 22
 ps : r.params = #[13]
 asg : r.assign = A18
 bd : r.body = B18
 e1 : r.e.get 1 = some (.pointer (some ⟨1, 0, none⟩))
 e2 : r.e.get 2 = some (.pointer (some ⟨2, 0, none⟩))
 e3 : r.e.get 3 = some (.pointer (some ⟨3, 0, none⟩))
 nx : 5 < h.next
theorem without_c2 {t : Tr AObj} {nx wr : Nat} {s_L s_w : Value} {L : List (List Value)} {w : List Int} (hr_L : Rd ⟨t, nx, wr⟩ 46 s_L L.length L.flatten) (h_L : cfs T.K43 L) (e : isNilS s_L = false) (hr_w : Rd ⟨t, nx, wr⟩ 1 s_w w.length (ints w)) (hb : L.length ≤ 1000) (h0 : 0 < L.length) (hw : w.length < 4611686018427387904) :
  c_without [s_L, s_w] ⟨t, nx, wr⟩ = some (.slice (some ⟨nx, 0, none⟩) (keptL w L).length ((keptL w L).length + 46), ⟨t.set nx (.row (delD L w) nx BIG false (delD L w).length), nx + 1, wr⟩) := by
 have q := without_c1 hr_L h_L e hr_w hb hw
 rw [if_neg (by omega)] at q
 exact q
theorem kept_rd {t : Tr AObj} {nx wr : Nat} {L : List (List Value)} {w : List Int} (h_L : cfs T.K43 L) : Rd ⟨t.set nx (.row (delD L w) nx BIG false (delD L w).length), nx + 1, wr⟩ 46 (.slice (some ⟨nx, 0, none⟩) (keptL w L).length ((keptL w L).length + 46)) (keptL w L).length (keptL w L).flatten := by
 have hK := keptL_cfs (ws := w) h_L
 have hl : (keptL w L).flatten.length = (keptL w L).length * 46 := cfs_len hK
 refine rd_row (by decide) (.inr rfl) ?_ (cfs_free0 hK)
 rw [l_whole (whole_row (by rw [Tr.get_set, if_pos rfl]) rfl) 0 _ (by rw [delD, List.length_append]; omega), List.drop_zero, delD, ← hl, List.take_left]
def busyT (t : Tr AObj) (r : ALoop) : Tr AObj := t.set 5 (.loop { r with state := .busy })
def keptT (t : Tr AObj) (nx : Nat) (L : List (List Value)) (w : List Int) : Tr AObj := t.set nx (.row (delD L w) nx BIG false (delD L w).length)
def missT (t : Tr AObj) (nx : Nat) (L : List (List Value)) (w : List Int) : Tr AObj := (keptT t nx L w).set (nx + 1) (.row (clashesL (keptL w L)).flatten (nx + 1) BIG false (clashesL (keptL w L)).flatten.length)
def missH (h : AH) (r : ALoop) (L : List (List Value)) (w : List Int) : AH := ⟨(missT (busyT h.t r) h.next L w).set 5 (.loop { r with state := .ready, pending := none }), h.next + 2, min (min h.wr 5) 5⟩
def hitH (h : AH) (r : ALoop) (s : Value) (L : List (List Value)) (w : List Int) : AH := ⟨(((keptT (busyT h.t r) h.next L w).set 2 (.row [s] 2 BIG false 1)).set 3 (.row [.int .i64 0] 3 BIG false 1)).set 5 (.loop { r with state := .done, pending := some .ret }), h.next + 1, min (min (min (min h.wr 5) 2) 3) 5⟩
theorem yield_m {L : List (List Value)} {s_L s : Value} {r : ALoop} {h : AH} {w : List Int} (hb : L.length ≤ 1000) (h0 : 0 < L.length) (h_L : cfs T.K43 L) (hs_L : Sl 0 46 L.length s_L) (hnl : isNilS s_L = false) (hR : Rnd L s_L r h) (hst : r.state = .ready)
  (hs : setOf h s = some w) (hw : w.length < 4611686018427387904) (h1s : s.cells.toList = [s] ∧ oneC s = true) :
  (explainL L w = false → Meets Try.prog (.yield 5) [s] h (.bool true) (missH h r L w)) ∧
  (explainL L w = true → ∀ d2 d3, h.t.get 2 = some (.row [d2] 2 BIG false 1) → h.t.get 3 = some (.row [d3] 3 BIG false 1) → Meets Try.prog (.yield 5) [s] h (.bool false) (hitH h r s L w)) := by
 have hP := Fits
 have hC : CallSound Try.prog (tabOf [(41, c_without), (10, c_clashes)]) := tab_sound (tab_cons con_without (tab_cons con_clashes tab_end))
 obtain ⟨t, nx, wr⟩ := h
 obtain ⟨g0, g1, hl, rsz, rps, asg, rbd, e1, e2, e3, hnx⟩ := hR
 have hl : t.get 5 = some (.loop r) := hl
 have hnx : 5 < nx := hnx
 have hp : setPs r.sz r.params.toList [s] r.e = some (r.e.set 13 s) := by rw [rps, rsz]; rfl
 have hx1 : XK Try.prog (tabOf [(41, c_without), (10, c_clashes)]) true 2 r.assign ⟨r.e.set 13 s, r.sz, ⟨t, nx, wr⟩⟩ (fun x => x = (.normal, ⟨(r.e.set 13 s).set 5 s, r.sz, ⟨t, nx, wr⟩⟩)) := by
  rw [asg, rsz]
  refine xk_reg ?_
  refine o_step (wA_none rfl) rfl (x_assign rfl (by simp only [Tr.get_set, reduceIte, ev_tmp] <;> rfl)) (by decide) ?_
  exact o_done rfl
 obtain ⟨q1, hx1, rfl⟩ := hx1
 have hrowk : ∀ id d cur low ro n0, t.get id = some (.row d cur low ro n0) → (busyT t r).get id = t.get id := by
  intro id d cur low ro n0 hg
  unfold busyT
  rw [Tr.get_set, if_neg]
  intro q; rw [q, hl] at hg; cases hg
 have b0 : (busyT t r).get 0 = some (.row L.flatten 0 BIG true L.flatten.length) := (hrowk _ _ _ _ _ _ g0).trans g0
 have b1 : (busyT t r).get 1 = some (.row [s_L] 1 BIG false 1) := (hrowk _ _ _ _ _ _ g1).trans g1
 have rL : Rd ⟨busyT t r, nx, min wr 5⟩ 46 s_L L.length L.flatten := rd_sl hs_L (by decide) (whole_row b0 rfl) (cfs_len h_L).symm (cfs_free0 h_L)
 have rw_ : Rd ⟨busyT t r, nx, min wr 5⟩ 1 s w.length (ints w) := setOf_rd hs hrowk
 have b5 : (busyT t r).get 5 = some (.loop { r with state := .busy }) := by unfold busyT; rw [Tr.get_set, if_pos rfl]
 have rK := kept_rd (t := busyT t r) (nx := nx) (wr := min wr 5) (w := w) h_L
 have q5 : ∀ q : Nat, ∀ v, q ≠ 13 → q ≠ 5 → r.e.get q = some v → ((r.e.set 13 s).set 5 s).get q = some v := by
  intro q v h1 h2 h3
  rw [Tr.get_set, if_neg h2, Tr.get_set, if_neg h1]; exact h3
 have E1 := q5 1 _ (by decide) (by decide) e1
 have E5 : ((r.e.set 13 s).set 5 s).get 5 = some s := by rw [Tr.get_set, if_pos rfl]
 have hb2 : (keptL w L).length ≤ 1000 := Nat.le_trans keptL_len hb
 have cK := clashes_c rK (keptL_cfs h_L) (by rw [ok_clashes, decide_eq_true hb2])
 constructor
 ·intro hE
  have hne : (clashesL (keptL w L)).length ≠ 0 := by
   intro q
   rw [explain_eq, decide_eq_true q] at hE
   cases hE
  rw [outV_ne hne, outN_ne hne] at cK
  have hx2 : XK Try.prog (tabOf [(41, c_without), (10, c_clashes)]) true 6 r.body ⟨(r.e.set 13 s).set 5 s, r.sz, busyA ⟨t, nx, wr⟩ 5 r⟩ (fun x => ∃ s2, x = (.normal, s2) ∧ s2.h = ⟨missT (busyT t r) nx L w, nx + 2, min wr 5⟩) := by
   rw [rbd, rsz]
   refine xk_block ?_
   refine xk_seq ?_
   refine xk_reg ?_
   refine o_step (wA_none rfl) rfl (x_load1 rfl (by rw [ev_tmp]; exact E1) T.g23 (l_all (whole_row b1 rfl) rfl)) (by decide) ?_
   refine o_step (wA_none rfl) rfl (x_move rfl (by simp only [Tr.get_set, reduceIte, Nat.reduceEqDiff, ev_tmp] <;> rfl)) (by decide) ?_
   refine o_call0 (wA_none rfl) rfl rfl rfl (by simp only [evs, ev_tmp, Tr.get_set, reduceIte, Nat.reduceEqDiff] <;> rfl) (by decide) ?_
   refine ⟨_, _, tab_hit.trans (without_c2 rL h_L hnl rw_ hb h0 hw), ?_⟩
   refine o_call0 (wA_none rfl) rfl rfl rfl (by simp only [evs, ev_tmp, Tr.get_set, reduceIte, Nat.reduceEqDiff] <;> rfl) (by decide) ?_
   refine ⟨_, _, (tab_miss (by decide)).trans (tab_hit.trans cK), ?_⟩
   refine o_step (wA_none rfl) rfl (x_len rfl rfl (by simp only [evs, ev_tmp, Tr.get_set, reduceIte, Nat.reduceEqDiff] <;> rfl) rfl Try.underlying29) (by decide) ?_
   refine o_step (wA_none rfl) rfl (x_bin (u := .bool false) rfl (by simp only [ev_tmp, Tr.get_set, reduceIte, Nat.reduceEqDiff] <;> rfl) (by rfl) (by rw [b_eql]; congr 2; exact decide_eq_false (by omega))) (by decide) ?_
   refine o_done ?_
   refine xk_cond (by simp only [ev_tmp, Tr.get_set, reduceIte, Nat.reduceEqDiff] <;> rfl) ?_
   exact xk_skip ⟨_, rfl, rfl⟩
  obtain ⟨q2, hx2, s2, rfl, h2⟩ := hx2
  have hl2 : s2.h.t.get 5 = some (.loop { r with state := .busy }) := by
   rw [h2]
   show (missT (busyT t r) nx L w).get 5 = _
   unfold missT keptT
   rw [Tr.get_set, if_neg (by omega), Tr.get_set, if_neg (by omega)]
   exact b5
  have key := round_meets hP.named hP.mix hC (h := ⟨t, nx, wr⟩) hl hp hx1 hl hst hx2 hl2
  unfold roundA at key
  rw [h2] at key
  exact key
 ·intro hE d2 d3 g2 g3
  have he : (clashesL (keptL w L)).length = 0 := by
   rw [explain_eq, decide_eq_true_eq] at hE
   exact hE
  have hcl : clashesL (keptL w L) = [] := List.eq_nil_of_length_eq_zero he
  rw [hcl] at cK
  have b2 : (keptT (busyT t r) nx L w).get 2 = some (.row [d2] 2 BIG false 1) := by
   unfold keptT
   rw [Tr.get_set, if_neg (by omega)]
   exact (hrowk _ _ _ _ _ _ g2).trans g2
  have b3 : ((keptT (busyT t r) nx L w).set 2 (.row [s] 2 BIG false 1)).get 3 = some (.row [d3] 3 BIG false 1) := by
   rw [Tr.get_set, if_neg (by decide)]
   unfold keptT
   rw [Tr.get_set, if_neg (by omega)]
   exact (hrowk _ _ _ _ _ _ g3).trans g3
  have hx2 : XK Try.prog (tabOf [(41, c_without), (10, c_clashes)]) true 6 r.body ⟨(r.e.set 13 s).set 5 s, r.sz, busyA ⟨t, nx, wr⟩ 5 r⟩ (fun x => ∃ s2, x = (.ret, s2) ∧ s2.h = ⟨((keptT (busyT t r) nx L w).set 2 (.row [s] 2 BIG false 1)).set 3 (.row [.int .i64 0] 3 BIG false 1), nx + 1, min (min (min wr 5) 2) 3⟩) := by
   rw [rbd, rsz]
   refine xk_block ?_
   refine xk_seq ?_
   refine xk_reg ?_
   refine o_step (wA_none rfl) rfl (x_load1 rfl (by rw [ev_tmp]; exact E1) T.g23 (l_all (whole_row b1 rfl) rfl)) (by decide) ?_
   refine o_step (wA_none rfl) rfl (x_move rfl (by simp only [Tr.get_set, reduceIte, Nat.reduceEqDiff, ev_tmp] <;> rfl)) (by decide) ?_
   refine o_call0 (wA_none rfl) rfl rfl rfl (by simp only [evs, ev_tmp, Tr.get_set, reduceIte, Nat.reduceEqDiff] <;> rfl) (by decide) ?_
   refine ⟨_, _, tab_hit.trans (without_c2 rL h_L hnl rw_ hb h0 hw), ?_⟩
   refine o_call0 (wA_none rfl) rfl rfl rfl (by simp only [evs, ev_tmp, Tr.get_set, reduceIte, Nat.reduceEqDiff] <;> rfl) (by decide) ?_
   refine ⟨_, _, (tab_miss (by decide)).trans (tab_hit.trans cK), ?_⟩
   refine o_step (wA_none rfl) rfl (x_len rfl rfl (by simp only [evs, ev_tmp, Tr.get_set, reduceIte, Nat.reduceEqDiff] <;> rfl) rfl Try.underlying29) (by decide) ?_
   refine o_step (wA_none rfl) rfl (x_bin (u := .bool true) rfl (by simp only [ev_tmp, Tr.get_set, reduceIte, Nat.reduceEqDiff] <;> rfl) (by rfl) (by rw [b_eql]; rfl)) (by decide) ?_
   refine o_done ?_
   refine xk_cond (by simp only [ev_tmp, Tr.get_set, reduceIte, Nat.reduceEqDiff] <;> rfl) ?_
   refine xk_seq ?_
   refine xk_reg ?_
   refine o_step (wA_none rfl) rfl (x_move rfl (by simp only [Tr.get_set, reduceIte, Nat.reduceEqDiff, ev_tmp] <;> rfl)) (by decide) ?_
   refine o_stepN (wA_none rfl) rfl (y_store1 rfl (by simp only [ev_tmp, Tr.get_set, reduceIte, Nat.reduceEqDiff] <;> exact e2) (by simp only [Tr.get_set, reduceIte, Nat.reduceEqDiff, ev_tmp] <;> rfl) h1s.1 T.s22 b2 rfl rfl h1s.2) ?_
   refine o_stepN (wA_none rfl) rfl (y_store1 rfl (by simp only [ev_tmp, Tr.get_set, reduceIte, Nat.reduceEqDiff] <;> exact e3) (by rfl) rfl T.s47 b3 rfl rfl rfl) ?_
   refine o_done ?_
   exact xk_ret ⟨_, rfl, rfl⟩
  obtain ⟨q2, hx2, s2, rfl, h2⟩ := hx2
  have hl2 : s2.h.t.get 5 = some (.loop { r with state := .busy }) := by
   rw [h2]
   show (((keptT (busyT t r) nx L w).set 2 _).set 3 _).get 5 = _
   rw [Tr.get_set, if_neg (by decide), Tr.get_set, if_neg (by decide)]
   unfold keptT
   rw [Tr.get_set, if_neg (by omega)]
   exact b5
  have key := round_meets hP.named hP.mix hC (h := ⟨t, nx, wr⟩) hl hp hx1 hl hst hx2 hl2
  unfold roundA at key
  rw [h2] at key
  exact key
def oraL (L : List (List Value)) (g : List Int → Option Bool) : Call' := fun f args h =>
 match f, args with
 | .yield 5, [s] =>
  match setOf h s with
  | some w =>
   match h.t.get 5 with
   | some (.loop r) =>
    match r.state with
    | .ready =>
     match g w with
     | some false => some (.bool true, missH h r L w)
     | some true =>
      match h.t.get 2, h.t.get 3 with
      | some (.row [_] c2 BIG2 false 1), some (.row [_] c3 BIG3 false 1) => if c2 == 2 && c3 == 3 && BIG2 == BIG && BIG3 == BIG then some (.bool false, hitH h r s L w) else none
      | _, _ => none
     | none => none
    | _ => none
   | _ => none
  | none => none
 | _, _ => none
theorem setOf_cells {h : AH} {s : Value} {w : List Int} (hs : setOf h s = some w) : s.cells.toList = [s] ∧ oneC s = true := by
 unfold setOf at hs
 split at hs
 ·exact ⟨rfl, rfl⟩
 ·exact ⟨rfl, rfl⟩
 ·cases hs
def InvL (L : List (List Value)) (s_L : Value) (r0 : ALoop) (h : AH) : Prop :=
 h.t.get 0 = some (.row L.flatten 0 BIG true L.flatten.length) ∧ h.t.get 1 = some (.row [s_L] 1 BIG false 1) ∧ (∃ r, h.t.get 5 = some (.loop r) ∧ LoopSame r0 r) ∧ 5 < h.next
theorem invL {L : List (List Value)} {s_L : Value} {r0 : ALoop} : Inv (InvL L s_L r0) 2 := by
 refine ⟨fun h h' hi hf hk => ?_, fun h w hi => hi⟩
 obtain ⟨h0, h1, ⟨r, h2, h3⟩, h4⟩ := hi
 obtain ⟨r', k1, k2⟩ := hf.loop 5 r h4 h2
 exact ⟨(hf.keep 0 (by omega) (by omega)).trans h0, (hf.keep 1 (by omega) (by omega)).trans h1, ⟨r', k1, h3.trans k2⟩, Nat.lt_of_lt_of_le h4 hf.next⟩
open Classical in
noncomputable def tabS (L : List (List Value)) (g : List Int → Option Bool) : Call' := fun f args h =>
 match oraL L g f args h with
 | some (v, h') => if Meets Try.prog f args h v h' then some (v, h') else none
 | none => none
theorem tabS_sound {L : List (List Value)} {g : List Int → Option Bool} : CallSound Try.prog (tabS L g) := by
 refine ⟨fun f args h r hc => ?_, fun f args h v h' hc => ?_⟩
 ·unfold tabS at hc
  split at hc
  ·rename_i v h' ho
   simp [oraL] at ho
  ·cases hc
 ·unfold tabS at hc
  split at hc
  ·split at hc
   ·cases hc; assumption
   ·cases hc
  ·cases hc
theorem fr_miss {h : AH} {r : ALoop} {L : List (List Value)} {w : List Int} (hl : h.t.get 5 = some (.loop r)) (hn : 5 < h.next) : Fr h (missH h r L w) := by
 have g : ∀ id, id ≠ 5 → id < h.next → (missH h r L w).t.get id = h.t.get id := by
  intro id h1 h2
  show ((missT (busyT h.t r) h.next L w).set 5 _).get id = _
  rw [Tr.get_set, if_neg h1]
  unfold missT keptT busyT
  rw [Tr.get_set, if_neg (by omega), Tr.get_set, if_neg (by omega), Tr.get_set, if_neg h1]
 refine ⟨by show min (min h.wr 5) 5 ≤ h.wr; omega, by show h.next ≤ h.next + 2; omega, fun id h1 h2 => g id ?_ h1, fun id r' h1 h2 => ?_⟩
 ·have : id < min (min h.wr 5) 5 := h2
  omega
 ·by_cases e : id = 5
  ·subst e
   rw [hl] at h2; cases h2
   exact ⟨{ r with state := .ready, pending := none }, by show ((missT (busyT h.t r) h.next L w).set 5 _).get 5 = _; rw [Tr.get_set, if_pos rfl], rfl, rfl, rfl, rfl, rfl⟩
  ·exact ⟨r', (g id e h1).trans h2, .refl r'⟩
theorem fr_hit {h : AH} {r : ALoop} {s : Value} {L : List (List Value)} {w : List Int} {d2 d3 : List Value} (hl : h.t.get 5 = some (.loop r)) (hn : 5 < h.next) (g2 : h.t.get 2 = some (.row d2 2 BIG false 1)) (g3 : h.t.get 3 = some (.row d3 3 BIG false 1)) : Fr h (hitH h r s L w) := by
 have g : ∀ id, id ≠ 5 → id ≠ 2 → id ≠ 3 → id < h.next → (hitH h r s L w).t.get id = h.t.get id := by
  intro id h1 h2 h3 h4
  show ((((keptT (busyT h.t r) h.next L w).set 2 _).set 3 _).set 5 _).get id = _
  rw [Tr.get_set, if_neg h1, Tr.get_set, if_neg h3, Tr.get_set, if_neg h2]
  unfold keptT busyT
  rw [Tr.get_set, if_neg (by omega), Tr.get_set, if_neg h1]
 refine ⟨by show min (min (min (min h.wr 5) 2) 3) 5 ≤ h.wr; omega, by show h.next ≤ h.next + 1; omega, fun id h1 h2 => ?_, fun id r' h1 h2 => ?_⟩
 ·have : id < min (min (min (min h.wr 5) 2) 3) 5 := h2
  exact g id (by omega) (by omega) (by omega) h1
 ·by_cases e : id = 5
  ·subst e
   rw [hl] at h2; cases h2
   exact ⟨{ r with state := .done, pending := some .ret }, by show ((((keptT (busyT h.t r) h.next L w).set 2 _).set 3 _).set 5 _).get 5 = _; rw [Tr.get_set, if_pos rfl], rfl, rfl, rfl, rfl, rfl⟩
  ·by_cases e2 : id = 2
   ·subst e2; rw [g2] at h2; cases h2
   ·by_cases e3 : id = 3
    ·subst e3; rw [g3] at h2; cases h2
    ·exact ⟨r', (g id e e2 e3 h1).trans h2, .refl r'⟩
theorem oraL_ora {L : List (List Value)} {s_L : Value} {r0 : ALoop} {g : List Int → Option Bool} (hb : L.length ≤ 1000) (h0 : 0 < L.length) (h_L : cfs T.K43 L) (hs_L : Sl 0 46 L.length s_L) (hnl : isNilS s_L = false)
  (rsz : r0.sz = 22) (rps : r0.params = #[13]) (ras : r0.assign = A18) (rbd : r0.body = B18) (e1 : r0.e.get 1 = some (.pointer (some ⟨1, 0, none⟩))) (e2 : r0.e.get 2 = some (.pointer (some ⟨2, 0, none⟩))) (e3 : r0.e.get 3 = some (.pointer (some ⟨3, 0, none⟩)))
  (hg : ∀ w b, g w = some b → explainL L w = b ∧ w.length ≤ 6) :
  Ora Try.prog (fun h => InvL L s_L r0 h) 2 (fun f args h => if 5 < h.next then oraL L g f args h else none) (tabS L g) := by
 refine ⟨fun f args h v h' hs => ?_, fun f args h v h' hi hs hk => ?_⟩
 ·split at hs
  case isFalse => cases hs
  rename_i hn
  unfold oraL at hs
  split at hs
  case h_2 => cases hs
  split at hs
  case h_2 => cases hs
  split at hs
  case h_2 => cases hs
  rename_i r hl
  split at hs
  case h_2 => cases hs
  split at hs
  ·cases hs; exact fr_miss hl hn
  ·split at hs
   case h_2 => cases hs
   rename_i g2 g3
   split at hs
   case isFalse => cases hs
   rename_i hc
   simp only [Bool.and_eq_true, beq_iff_eq] at hc
   obtain ⟨⟨⟨rfl, rfl⟩, rfl⟩, rfl⟩ := hc
   cases hs
   exact fr_hit hl hn g2 g3
  ·cases hs
 ·split at hs
  case isFalse => cases hs
  have ho := hs
  unfold oraL at hs
  split at hs
  case h_2 => cases hs
  rename_i s
  split at hs
  case h_2 => cases hs
  rename_i w hw
  split at hs
  case h_2 => cases hs
  rename_i r hl
  split at hs
  case h_2 => cases hs
  rename_i hst
  obtain ⟨i0, i1, ⟨r1, i2, i3⟩, i4⟩ := hi
  rw [hl] at i2; cases i2
  have hR : Rnd L s_L r h := ⟨i0, i1, hl, i3.2.1.trans rsz, i3.2.2.1.trans rps, i3.2.2.2.1.trans ras, i3.2.2.2.2.trans rbd, by rw [i3.1]; exact e1, by rw [i3.1]; exact e2, by rw [i3.1]; exact e3, i4⟩
  have hm : Meets Try.prog (.yield 5) [s] h v h' := by
   split at hs
   ·rename_i hgw
    cases hs
    have q := hg _ _ hgw
    exact (yield_m hb h0 h_L hs_L hnl hR hst hw (by omega) (setOf_cells hw)).1 q.1
   ·rename_i hgw
    have q := hg _ _ hgw
    split at hs
    case h_2 => cases hs
    rename_i g2 g3
    split at hs
    case isFalse => cases hs
    rename_i hc
    simp only [Bool.and_eq_true, beq_iff_eq] at hc
    obtain ⟨⟨⟨rfl, rfl⟩, rfl⟩, rfl⟩ := hc
    cases hs
    exact (yield_m hb h0 h_L hs_L hnl hR hst hw (by omega) (setOf_cells hw)).2 q.1 _ _ g2 g3
   ·cases hs
  unfold tabS
  rw [ho]
  simp only
  rw [if_pos hm]
end Go.Proofs.Ytohhcnehcjpekaa
