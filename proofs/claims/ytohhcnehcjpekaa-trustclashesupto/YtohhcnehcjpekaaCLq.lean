/-
  Contracts: the least explanation.
-/
import Derived.Test.YtohhcnehcjpekaaCLm
namespace Go.Proofs.Ytohhcnehcjpekaa
open Go.AM
set_option maxRecDepth 100000
set_option maxHeartbeats 1000000
set_option linter.unusedSimpArgs false
set_option linter.unusedVariables false
theorem blt_i {a b : Nat} (h : a < b) : Nat.blt a b = true := by rw [Nat.blt_eq]; exact h
theorem blt_o {a b : Nat} (h : Nat.blt a b = true) : a < b := by rw [Nat.blt_eq] at h; exact h
theorem k_range {P : Program} {h0 : AH} {fr : List Frm} {Q : Ex → St → Prop} {g : Operand} {ps : Array Tmp} {assign body : Code} {e : Tr Value} {sz : Nat} {h : AH} {f : FuncId} {fn : Func} {cap : List Value} {v : Value} {h2 : AH} {r : ALoop} {ex : Ex} (hP : Fit P) (hfn : P.funcs[f]? = some fn) (hb : fn.body.isSome = true)
  (hg : ev e g = some (.func (.func f) ⟨[]⟩ ⟨cap⟩)) (hm : Meets P (.func f) ([.func (.yield h.next) #[] #[]] ++ cap) { h with t := h.t.set h.next (.loop ⟨.ready, none, e, sz, ps, assign, body⟩), next := h.next + 1 } v h2)
  (hl : h2.t.get h.next = some (.loop r)) (hst : r.state = .ready ∨ r.state = .done) (hp : (r.pending = none ∧ ex = .normal) ∨ (r.pending = some .ret ∧ ex = .ret)) (k : EndK P h0 fr ex ⟨e, sz, endLoopA h2 h.next r⟩ Q) : TriK P h0 (.rangeFunc g ps assign body) fr ⟨e, sz, h⟩ Q := by
 have hC := tab_sound (tab_cons (con_atH hfn hb hm) tab_end)
 refine tri_exec (ex := ex) (s := ⟨e, sz, endLoopA h2 h.next r⟩) (n := 3) hP hC ?_ k
 simp only [exec, Bool.false_eq_true, if_false, hg, List.nil_append]
 rw [tab_hit, cAt_hit]
 simp only [hl]
 rcases hst with h1 | h1 <;> rcases hp with ⟨h3, rfl⟩ | ⟨h3, rfl⟩ <;> simp only [h1, h3]
theorem gen_e {P : Program} {h0 : AH} {fr : List Frm} {Q : Ex → St → Prop} {c : Code} {e : Tr Value} {sz : Nat} {h : AH} {a1 a2 a3 a8 a12 : Value} (h1 : e.get 1 = some a1) (h2 : e.get 2 = some a2) (h3 : e.get 3 = some a3) (h8 : e.get 8 = some a8) (h12 : e.get 12 = some a12)
  (k : ∀ e' : Tr Value, e'.get 1 = some a1 → e'.get 2 = some a2 → e'.get 3 = some a3 → e'.get 8 = some a8 → e'.get 12 = some a12 → TriK P h0 c fr ⟨e', sz, h⟩ Q) : TriK P h0 c fr ⟨e, sz, h⟩ Q := k e h1 h2 h3 h8 h12
def c_sets : List Value → AH → Option (Value × AH) := fun args h => match args with
 | [.int .i64 n] => some (.func (.func 48) ⟨[]⟩ ⟨[.pointer (some ⟨h.next, 0, none⟩)]⟩, ⟨h.t.set h.next (.row [.int .i64 n] h.next BIG false 1), h.next + 1, h.wr⟩)
 | _ => none
theorem sets_c1 {t : Tr AObj} {nx wr : Nat} {n : Int} : c_sets [.int .i64 n] ⟨t, nx, wr⟩ = some (.func (.func 48) ⟨[]⟩ ⟨[.pointer (some ⟨nx, 0, none⟩)]⟩, ⟨t.set nx (.row [.int .i64 n] nx BIG false 1), nx + 1, wr⟩) := rfl
theorem con_sets : Con Try.prog 40 c_sets := by
 refine ⟨⟨_, Try.func40, rfl⟩, fun args h v h' hc => ?_⟩
 unfold c_sets at hc
 split at hc
 case h_2 => cases hc
 rename_i n
 cases hc
 obtain ⟨t, nx, wr⟩ := h
 have hC : CallSound Try.prog (tabOf []) := tab_sound tab_end
 have key : XK Try.prog (tabOf []) false 5 (Try.f40.body.getD .skip) ⟨(Tr.leaf).set 0 (.int .i64 n), 4, ⟨t, nx, wr⟩⟩ (fun r => (r.1 = .normal ∨ r.1 = .ret) ∧ r.2.e.get 2 = some (.func (.func 48) ⟨[]⟩ ⟨[.pointer (some ⟨nx, 0, none⟩)]⟩) ∧ r.2.h = ⟨t.set nx (.row [.int .i64 n] nx BIG false 1), nx + 1, wr⟩) := by
  refine xk_seq ?_
  refine xk_reg ?_
  refine os (y_box1 rfl (by rfl) rfl) ?_
  refine os (x_assign rfl (by rfl)) ?_
  refine o_done ?_
  refine xk_seq ?_
  refine xk_reg ?_
  refine os (x_makeFunc rfl (by rfl) (by rfl)) ?_
  refine os (x_assign rfl (by rfl)) ?_
  refine o_done ?_
  exact xk_ret ⟨.inr rfl, rfl, rfl⟩
 obtain ⟨⟨ex, s⟩, q1, q2, q3, q4⟩ := key
 have := func_meets Fits.named Fits.mix hC (f := 40) (fn := Try.f40) (c := Try.f40.body.getD .skip) Try.func40 rfl (h := ⟨t, nx, wr⟩) (args := [.int .i64 n]) (n := 5) (ex := ex) (st := s) (vs := [.func (.func 48) ⟨[]⟩ ⟨[.pointer (some ⟨nx, 0, none⟩)]⟩]) q1 q2 (by rw [show Try.f40.results.toList = [ResultVar.tmp 2] from rfl]; simp only [resA]; rw [show s.e.get 2 = _ from q3])
 rw [show s.h = _ from q4] at this
 exact this
theorem gcOk_rows4 {h : AH} {d0 d1 d2 d3 : List Value} {l0 l1 l2 l3 n0 n1 n2 n3 : Nat} {b0 b1 b2 b3 : Bool} (g0 : h.t.get 0 = some (.row d0 0 l0 b0 n0)) (g1 : h.t.get 1 = some (.row d1 1 l1 b1 n1)) (g2 : h.t.get 2 = some (.row d2 2 l2 b2 n2)) (g3 : h.t.get 3 = some (.row d3 3 l3 b3 n3)) (hn : 3 < h.next) : gcOk 1 h [0, 1, 2, 3] = true := by
 have r1 : rootOf h 1 = 1 := by unfold rootOf; rw [fam_row g1]
 have r0 : rootOf h 0 = 0 := by unfold rootOf; rw [fam_row g0]
 have r2 : rootOf h 2 = 2 := by unfold rootOf; rw [fam_row g2]
 have r3 : rootOf h 3 = 3 := by unfold rootOf; rw [fam_row g3]
 simp [gcOk, r0, r1, r2, r3, List.range_succ]
 omega
theorem gcOk_row2 {h : AH} {d0 d1 : List Value} {id l0 l1 n0 n1 : Nat} {b0 b1 : Bool} (g0 : h.t.get 0 = some (.row d0 0 l0 b0 n0)) (g1 : h.t.get id = some (.row d1 id l1 b1 n1)) (hi : 0 < id) (hn : id < h.next) : gcOk 1 h [0, id] = true := by
 have r1 : rootOf h id = id := by unfold rootOf; rw [fam_row g1]
 have r0 : rootOf h 0 = 0 := by unfold rootOf; rw [fam_row g0]
 simp [gcOk, r0, r1, List.range_succ]
 omega
theorem gcOk_row1 {h : AH} : gcOk 1 h [0] = true := by
 simp [gcOk, List.range_succ]
structure MissF (h1 h2 : AH) : Prop where
 wr : 4 ≤ h2.wr
 next : 6 ≤ h2.next
 old : ∀ id, id < 4 → h2.t.get id = h1.t.get id
 lp : ∃ r, h2.t.get 5 = some (.loop r) ∧ r.state = .ready ∧ r.pending = none
theorem miss_run {L : List (List Value)} {s_L : Value} {e : Tr Value} {s : Nat} (hs : s ≤ 6) (hb : L.length ≤ 1000) (h0 : 0 < L.length) (h_L : cfs T.K43 L) (hs_L : Sl 0 46 L.length s_L) (hnl : isNilS s_L = false)
  (e1 : e.get 1 = some (.pointer (some ⟨1, 0, none⟩))) (e2 : e.get 2 = some (.pointer (some ⟨2, 0, none⟩))) (e3 : e.get 3 = some (.pointer (some ⟨3, 0, none⟩))) (hf : ∀ w ∈ combs s six, explainL L w = false) :
  ∃ v h2, Meets Try.prog (.func 48) [.func (.yield 5) #[] #[], .pointer (some ⟨4, 0, none⟩)] (h48 L s_L s e #[13] A18 B18) v h2 ∧ MissF (h48 L s_L s e #[13] A18 B18) h2 := by
 have hr := miss_all L s_L e #[13] A18 B18 hs
 unfold missRun goodMiss at hr
 split at hr
 case h_2 => cases hr
 rename_i v h2 hrun
 simp only [Bool.and_eq_true] at hr
 obtain ⟨⟨k1, k2⟩, k3⟩ := hr
 have k1 := Nat.le_of_ble_eq_true k1
 have k2 := Nat.le_of_ble_eq_true k2
 have hg := gT_ok (L := L) (s := s) (pre := combs s six) (T := none) (fun w hw => ⟨hw, hf w hw⟩) (fun w hw => by cases hw)
 have hm := run_meets hb h0 h_L hs_L hnl e1 e2 e3 hg hrun (by omega)
 have hfr := (callU_ora (oraL_ora (r0 := ⟨.ready, none, e, 22, #[13], A18, B18⟩) hb h0 h_L hs_L hnl rfl rfl rfl rfl e1 e2 e3 hg) invL (fs := [48, 49, 50]) 60).fr _ _ _ _ _ hrun
 refine ⟨v, h2, hm, k1, k2, fun id hid => hfr.keep id (by show id < 6; omega) (by omega), ?_⟩
 split at k3
 ·rename_i r hr
  split at k3
  ·exact ⟨r, hr, by assumption, by assumption⟩
  ·cases k3
 ·cases k3
structure HitF (T : List Int) (h1 h2 : AH) : Prop where
 wr : 2 ≤ h2.wr
 next : 6 ≤ h2.next
 old : ∀ id, id < 2 → h2.t.get id = h1.t.get id
 lp : ∃ r, h2.t.get 5 = some (.loop r) ∧ r.state = .done ∧ r.pending = some .ret
 st : ∃ s l2 l3, h2.t.get 2 = some (.row [s] 2 l2 false 1) ∧ h2.t.get 3 = some (.row [.int .i64 0] 3 l3 false 1) ∧ goodSet h2 T s = true
theorem hit_run {L : List (List Value)} {s_L : Value} {e : Tr Value} {s k : Nat} (hs : s ≤ 6) (hk : k < (combs s six).length) (hb : L.length ≤ 1000) (h0 : 0 < L.length) (h_L : cfs T.K43 L) (hs_L : Sl 0 46 L.length s_L) (hnl : isNilS s_L = false)
  (e1 : e.get 1 = some (.pointer (some ⟨1, 0, none⟩))) (e2 : e.get 2 = some (.pointer (some ⟨2, 0, none⟩))) (e3 : e.get 3 = some (.pointer (some ⟨3, 0, none⟩))) (hf : ∀ w ∈ (combs s six).take k, explainL L w = false) (ht : explainL L ((combs s six).getD k []) = true) :
  ∃ v h2, Meets Try.prog (.func 48) [.func (.yield 5) #[] #[], .pointer (some ⟨4, 0, none⟩)] (h48 L s_L s e #[13] A18 B18) v h2 ∧ HitF ((combs s six).getD k []) (h48 L s_L s e #[13] A18 B18) h2 := by
 have hr := hit_all L s_L e #[13] A18 B18 hs hk
 have hmem : (combs s six).getD k [] ∈ combs s six := by
  rw [List.getD_eq_getElem?_getD, List.getElem?_eq_getElem hk]
  exact List.getElem_mem _
 have hg := gT_ok (L := L) (s := s) (pre := (combs s six).take k) (T := some ((combs s six).getD k [])) (fun w hw => ⟨List.mem_of_mem_take hw, hf w hw⟩) (fun w hw => by cases hw; exact ⟨hmem, ht⟩)
 obtain ⟨T, hT⟩ : ∃ T, (combs s six).getD k [] = T := ⟨_, rfl⟩
 unfold hitRun at hr
 rw [hT] at hr hg ⊢
 unfold goodHit at hr
 split at hr
 case h_2 => cases hr
 rename_i v h2 hrun
 simp only [Bool.and_eq_true] at hr
 obtain ⟨⟨⟨⟨k1, k2⟩, k3⟩, k4⟩, k5⟩ := hr
 have k1 := Nat.le_of_ble_eq_true k1
 have k2 := Nat.le_of_ble_eq_true k2
 have hm := run_meets hb h0 h_L hs_L hnl e1 e2 e3 hg hrun k1
 have hfr := (callU_ora (oraL_ora (r0 := ⟨.ready, none, e, 22, #[13], A18, B18⟩) hb h0 h_L hs_L hnl rfl rfl rfl rfl e1 e2 e3 hg) invL (fs := [48, 49, 50]) 60).fr _ _ _ _ _ hrun
 refine ⟨v, h2, hm, k1, k2, fun id hid => hfr.keep id (by show id < 6; omega) (by omega), ?_, ?_⟩
 ·split at k3
  ·rename_i r hr
   split at k3
   ·exact ⟨r, hr, by assumption, by assumption⟩
   ·cases k3
  ·cases k3
 ·split at k4
  ·rename_i sv c2 l2 hg2
   simp only [Bool.and_eq_true, beq_iff_eq] at k4
   obtain ⟨rfl, k4⟩ := k4
   split at k5
   ·rename_i c3 l3 hg3
    have k5 := beq_iff_eq.1 k5
    subst k5
    exact ⟨sv, l2, l3, hg2, hg3, k4⟩
   ·cases k5
  ·cases k4
def leastL (L : List (List Value)) : List Int := ((combs 0 six ++ (combs 1 six ++ (combs 2 six ++ (combs 3 six ++ (combs 4 six ++ (combs 5 six ++ combs 6 six)))))).find? (explainL L)).getD []
theorem six_explains {L : List (List Value)} (h : L.any oddC = false) : explainL L six = true := by
 have : keptL six L = [] := by
  unfold keptL
  rw [List.filter_eq_nil_iff]
  intro a ha
  have := List.any_eq_false.1 h a ha
  unfold oddC at this
  simp only [Bool.or_eq_true, decide_eq_true_eq, not_or] at this
  have hw : wkr a ∈ six := by
   unfold six
   simp only [List.mem_cons, List.mem_nil_iff, or_false]
   omega
  simp [hw]
 unfold explainL
 rw [this]
 rfl
theorem find_at {α : Type} {p : α → Bool} : ∀ {l : List α}, (∀ w ∈ l, p w = false) ∨ ∃ k, k < l.length ∧ (∀ w ∈ l.take k, p w = false) ∧ ∃ x, l[k]? = some x ∧ p x = true
 | [] => .inl fun w h => by cases h
 | a :: l => by
  cases ha : p a with
  | true => exact .inr ⟨0, by simp, fun w h => by simp at h, a, rfl, ha⟩
  | false =>
   rcases find_at (p := p) (l := l) with h | ⟨k, h1, h2, x, h3, h4⟩
   ·exact .inl fun w hw => by rcases List.mem_cons.1 hw with rfl | hw; exact ha; exact h w hw
   ·exact .inr ⟨k + 1, by simp; omega, fun w hw => by rw [List.take_succ_cons] at hw; rcases List.mem_cons.1 hw with rfl | hw; exact ha; exact h2 w hw, x, h3, h4⟩
theorem find_app {α : Type} {p : α → Bool} {l m : List α} (h : ∀ w ∈ l, p w = false) : (l ++ m).find? p = m.find? p := by
 rw [List.find?_append, List.find?_eq_none.2 (fun x hx => by rw [h x hx]; simp)]
 rfl
theorem find_here {α : Type} {p : α → Bool} {l m : List α} {k : Nat} {x : α} (h : ∀ w ∈ l.take k, p w = false) (hx : l[k]? = some x) (hp : p x = true) : (l ++ m).find? p = some x := by
 have hl : l = l.take k ++ x :: l.drop (k + 1) := by
  have hk : k < l.length := (List.getElem?_eq_some_iff.1 hx).1
  conv => lhs; rw [← List.take_append_drop k l]
  rw [List.drop_eq_getElem_cons hk]
  congr 2
  exact (List.getElem?_eq_some_iff.1 hx).2
 rw [hl, List.append_assoc, find_app h, List.cons_append, List.find?_cons, hp]
theorem least_hit {L : List (List Value)} {s k : Nat} (hs : s ≤ 6) (hb : ∀ j, j < s → ∀ w ∈ combs j six, explainL L w = false) (h : ∀ w ∈ (combs s six).take k, explainL L w = false) (hk : k < (combs s six).length) (ht : explainL L ((combs s six).getD k []) = true) : leastL L = (combs s six).getD k [] := by
 have hx : (combs s six)[k]? = some ((combs s six).getD k []) := by rw [List.getD_eq_getElem?_getD, List.getElem?_eq_getElem hk]; rfl
 unfold leastL
 rcases (by omega : s = 0 ∨ s = 1 ∨ s = 2 ∨ s = 3 ∨ s = 4 ∨ s = 5 ∨ s = 6) with rfl | rfl | rfl | rfl | rfl | rfl | rfl
 ·rw [find_here h hx ht]; rfl
 ·rw [find_app (hb 0 (by omega)), find_here h hx ht]; rfl
 ·rw [find_app (hb 0 (by omega)), find_app (hb 1 (by omega)), find_here h hx ht]; rfl
 ·rw [find_app (hb 0 (by omega)), find_app (hb 1 (by omega)), find_app (hb 2 (by omega)), find_here h hx ht]; rfl
 ·rw [find_app (hb 0 (by omega)), find_app (hb 1 (by omega)), find_app (hb 2 (by omega)), find_app (hb 3 (by omega)), find_here h hx ht]; rfl
 ·rw [find_app (hb 0 (by omega)), find_app (hb 1 (by omega)), find_app (hb 2 (by omega)), find_app (hb 3 (by omega)), find_app (hb 4 (by omega)), find_here h hx ht]; rfl
 ·rw [find_app (hb 0 (by omega)), find_app (hb 1 (by omega)), find_app (hb 2 (by omega)), find_app (hb 3 (by omega)), find_app (hb 4 (by omega)), find_app (hb 5 (by omega)), ← List.append_nil (combs 6 six), find_here h hx ht]; rfl
theorem pk18 : progOk Try.prog [18] = true := by kernel_rfl
theorem pkE : progOk Try.prog [10, 12, 36, 38, 39, 40, 41, 48, 49, 50, 51, 52, 53] = true := by kernel_rfl
def ok_least (L : List (List Value)) : Bool := decide (L.length ≤ 1000)
def val_least (L : List (List Value)) : Value := if L.any oddC then .tuple ⟨[.slice none 0 0, .int .i64 1]⟩ else .tuple ⟨[outV 1 1 (leastL L).length, .int .i64 0]⟩
def new_least (L : List (List Value)) : List (List Value) := if L.any oddC then [] else outN (leastL L).length (ints (leastL L))
def spec_least : Go.AM.Spec := fun us cs => match us, cs with
 | [s_L], [c_L] => if slOk 0 46 c_L s_L && isRows T.K43 c_L && ok_least (chunks 46 c_L) then some (val_least (chunks 46 c_L), new_least (chunks 46 c_L)) else none
 | _, _ => none
def c_least := flatC [.sl 46] spec_least
theorem least_m {s_L : Value} {L : List (List Value)} (hs_L : Sl 0 46 L.length s_L) (h_L : cfs T.K43 L) (hok : ok_least L = true) : Meets Try.prog (.func 18) [s_L] (cheap [L.flatten]) (val_least L) (rheap [L.flatten] (new_least L)) := by
 have hP := Fits
 have hC : CallSound Try.prog (tabOf [(38, c_anyOdd), (40, c_sets)]) := tab_sound (tab_cons con_anyOdd (tab_cons con_sets tab_end))
 simp only [ok_least, Bool.and_eq_true, decide_eq_true_eq] at hok
 have hb := hok
 have hC0 : CallSound Try.prog (tabOf []) := tab_sound tab_end
 rcases Nat.eq_zero_or_pos L.length with hL | hL0
 ·have hL2 : L = [] := List.eq_nil_of_length_eq_zero hL
  subst hL2
  rcases hs_L with ⟨hsl, hn⟩ | hsl
  ·subst hsl
   exact runR_meets hP pk18 (callT_sound hP pkE hC0 60) (n := 100) zr
  ·subst hsl
   exact runR_meets hP pk18 (callT_sound hP pkE hC0 60) (n := 100) zr
 have hsl := hs_L.pos hL0
 subst hsl
 refine meets_start (sz := 22) hP Try.func18 rfl rfl zo (by simp only [Tr.ofList, roRows, Nat.zero_add, Nat.reduceAdd] <;> rfl) zl ?_
 refine k_seq ?_
 refine k_region hP hC ?_
 refine os (y_box1 rfl zt rfl) ?_
 refine os (y_alloc rfl T.z22 rfl rfl) ?_
 refine os (y_alloc rfl T.z47 rfl rfl) ?_
 refine o_done ?_
 refine e_seq ?_
 refine k_seq ?_
 refine k_seq ?_
 refine k_region hP hC ?_
 refine os (x_load1 rfl zt T.g23 (l_all (whole_row zh rfl) rfl)) ?_
 refine o_call0 (wA_none rfl) rfl rfl rfl zv (by decide) ?_
 refine ⟨_, _, (tab_hit.trans (anyOdd_c (rd_whole (by decide) (.inr rfl) (whole_row zh rfl) (cfs_len h_L).symm (cfs_free0 h_L)) h_L (by rw [ok_anyOdd, decide_eq_true (by omega)]))), ?_⟩
 refine o_done ?_
 refine e_seq ?_
 refine k_cond zt (fun g2 => ?_) (fun g2 => ?_)
 ·have p2 := g2; try simp only [d1, d2, d3, d4, d5, d6, d7, d8, d9] at p2
  refine k_seq ?_
  refine k_region hP hC ?_
  refine o_stepN (wA_none rfl) rfl (y_store1 rfl zt (by rfl) rfl T.s22 zh rfl rfl rfl) ?_
  refine o_stepN (wA_none rfl) rfl (y_store1 rfl zt (by rfl) rfl T.s47 zh rfl rfl rfl) ?_
  refine o_done ?_
  refine e_seq ?_
  refine k_ret ?_
  refine e_seq_ret ?_
  unfold val_least new_least
  rw [(by assumption : L.any oddC = true)]
  simp only [if_true]
  refine gives_mk2 (L := [0]) (w := 1) (.inr rfl) zr (resA_cell1 zh T.g22 (l_all (whole_row zh rfl) rfl) (resA_cell1 zh T.g47 (l_all (whole_row zh rfl) rfl) resA_nil)) ?_ (gcH_cons (gcO_old (by rfl) zh) gcH_nil) zr
  rfl
 ·have p2 := g2; try simp only [d1, d2, d3, d4, d5, d6, d7, d8, d9] at p2
  refine k_skip ?_
  refine e_seq ?_
  refine k_seq ?_
  refine k_seq ?_
  refine k_region hP hC ?_
  refine os (x_move rfl (by rfl)) ?_
  refine o_done ?_
  refine e_seq ?_
  refine k_block ?_
  refine k_loop (α := Int) (fun i => cst 22 [1, 2, 3, 8] [.pointer (some ⟨1, 0, none⟩), .pointer (some ⟨2, 0, none⟩), .pointer (some ⟨3, 0, none⟩), .int .i64 i] [.row L.flatten 0 BIG true L.flatten.length, .row [.slice (some ⟨0, 0, none⟩) L.length (L.length + 46)] 1 BIG false 1, .row [.slice none 0 0] 2 BIG false 1, .row [.int .i64 0] 3 BIG false 1] 4) (fun i => 0 ≤ i ∧ i ≤ 6 ∧ ∀ j : Nat, (j : Int) < i → ∀ w ∈ combs j six, explainL L w = false) (fun i => (7 - i).toNat) 0 (to_mk (L := [0, 1, 2, 3]) (slots := [1, 2, 3, 8]) (w := 4) zr (gcVs_cons zh (gcV_ptr rfl) (gcVs_cons zh (gcV_ptr rfl) (gcVs_cons zh (gcV_ptr rfl) (gcVs_cons zh (gcV_free rfl) gcVs_nil)))) (gcH_cons (gcO_old (by rfl) zh) (gcH_cons (gcO_rowE (by rfl) zh (gcD_cons (gcV_slice rfl) gcD_nil) rfl) (gcH_cons (gcO_rowE (by rfl) zh (gcD_free rfl) rfl) (gcH_cons (gcO_rowE (by rfl) zh (gcD_free rfl) rfl) gcH_nil)))) zr) ⟨by omega, by omega, fun j hj => by omega⟩ ?_
  rintro i ⟨h0, h1, h2⟩
  refine k_cst zm zo zl ?_
  refine k_seq ?_
  refine k_region hP hC ?_
  refine os (x_bin (u := .bool true) rfl zt (by rfl) (by rw [b_lss]; congr 2; exact decide_eq_true (by omega))) ?_
  refine o_done ?_
  refine e_seq ?_
  refine k_seq ?_
  refine k_condT zt ?_
  refine k_skip ?_
  refine e_seq ?_
  refine k_seq ?_
  refine k_block ?_
  refine k_seq ?_
  refine k_region hP hC ?_
  refine os (x_move rfl zt) ?_
  refine os (x_assign rfl zt) ?_
  refine o_done ?_
  refine e_seq ?_
  refine k_seq ?_
  refine k_region hP hC ?_
  refine os (x_move rfl zt) ?_
  refine o_call0 (wA_none rfl) rfl rfl rfl zv (by decide) ?_
  refine ⟨_, _, ((tab_miss (by decide)).trans (tab_hit.trans sets_c1)), ?_⟩
  refine o_done ?_
  refine e_seq ?_
  refine k_block ?_
  refine gen_e rfl rfl rfl rfl rfl fun e' E1 E2 E3 E8 E12 => ?_
  have hodd : L.any oddC = false := by assumption
  have hi : ((i.toNat : Nat) : Int) = i := Int.toNat_of_nonneg h0
  rcases find_at (p := explainL L) (l := combs i.toNat six) with hmiss | ⟨k, hk, hpre, TT, hT, hTe⟩
  ·have hi6 : i < 6 := by
    rcases Int.lt_or_le i 6 with q | q
    ·exact q
    ·exfalso
     have e6 : i.toNat = 6 := by omega
     have := hmiss six (by rw [e6]; exact List.mem_singleton.2 rfl)
     rw [six_explains hodd] at this
     cases this
   obtain ⟨v, h2', hm, hF⟩ := miss_run (s := i.toNat) (L := L) (s_L := .slice (some ⟨0, 0, none⟩) L.length (L.length + 46)) (e := e') (by omega) hb hL0 h_L hs_L rfl E1 E2 E3 hmiss
   rw [hi] at hm hF
   obtain ⟨r, hl, hst, hpd⟩ := hF.lp
   refine k_range hP Try.func48 rfl (by rw [ev_tmp]; exact E12) hm hl (.inl hst) (.inl ⟨hpd, rfl⟩) ?_
   obtain ⟨tt, nn, ww⟩ := h2'
   obtain ⟨fwr, fnx, fold, -⟩ := hF
   have fwr : 4 ≤ ww := fwr
   have fnx : 6 ≤ nn := fnx
   have fe : endLoopA ⟨tt, nn, ww⟩ 5 r = ⟨tt.set 5 (.loop { r with state := .exhausted }), nn, min ww 5⟩ := rfl
   have fg : ∀ id, id < 4 → (endLoopA ⟨tt, nn, ww⟩ 5 r).t.get id = (h48 L _ i e' #[13] A18 B18).t.get id := fun id hid => by
     rw [fe]
     show (tt.set 5 _).get id = _
     rw [Tr.get_set, if_neg (by omega)]
     exact fold id hid
   have f0 := fg 0 (by decide)
   have f1 := fg 1 (by decide)
   have f2 := fg 2 (by decide)
   have f3 := fg 3 (by decide)
   have fn : 3 < (endLoopA ⟨tt, nn, ww⟩ 5 r).next := by show 3 < nn; omega
   have f0w : 0 < (endLoopA ⟨tt, nn, ww⟩ 5 r).wr := by show 0 < min ww 5; omega
   have fw : 4 ≤ (endLoopA ⟨tt, nn, ww⟩ 5 r).wr := by show 4 ≤ min ww 5; omega
   refine e_block ?_
   refine e_block ?_
   refine e_seq ?_
   refine k_region hP hC ?_
   refine os (x_bin rfl (by rw [ev_tmp]; exact E8) (by rfl) b_add) ?_
   refine os (x_move rfl zt) ?_
   refine o_done ?_
   refine e_loop ?_
   refine ⟨IntKind.i64.wrap (i + 1), (to_mk (L := [0, 1, 2, 3]) (slots := [1, 2, 3, 8]) (w := 4) (gcOk_rows4 f0 f1 f2 f3 fn) (gcVs_cons (by simp only [Tr.get_set, reduceIte, Nat.reduceEqDiff]; exact E1) (gcV_ptr rfl) (gcVs_cons (by simp only [Tr.get_set, reduceIte, Nat.reduceEqDiff]; exact E2) (gcV_ptr rfl) (gcVs_cons (by simp only [Tr.get_set, reduceIte, Nat.reduceEqDiff]; exact E3) (gcV_ptr rfl) (gcVs_cons (by simp only [Tr.get_set, reduceIte, Nat.reduceEqDiff] <;> rfl) (gcV_free rfl) gcVs_nil)))) (gcH_cons (gcO_old (by simp only [Bool.and_eq_true]; exact ⟨rfl, blt_i f0w⟩) f0) (gcH_cons (gcO_rowE (by rfl) f1 (gcD_cons (gcV_slice rfl) gcD_nil) rfl) (gcH_cons (gcO_rowE (by rfl) f2 (gcD_free rfl) rfl) (gcH_cons (gcO_rowE (by rfl) f3 (gcD_free rfl) rfl) gcH_nil)))) (Nat.ble_eq_true_of_le fw)), ?_, ?_⟩
   ·rw [wr1 (by omega) (by omega)]; exact ⟨by omega, by omega, fun j hj w hw => by rcases Nat.lt_or_ge j i.toNat with q | q; exact h2 j (by omega) w hw; rw [show j = i.toNat by omega] at hw; exact hmiss w hw⟩
   ·rw [wr1 (by omega) (by omega)]; omega
  ·skip
   have hTd : (combs i.toNat six).getD k [] = TT := by rw [List.getD_eq_getElem?_getD, hT]; rfl
   obtain ⟨v, h2', hm, hF⟩ := hit_run (s := i.toNat) (L := L) (s_L := .slice (some ⟨0, 0, none⟩) L.length (L.length + 46)) (e := e') (by omega) hk hb hL0 h_L hs_L rfl E1 E2 E3 hpre (by rw [hTd]; exact hTe)
   have hLT : leastL L = TT := by rw [least_hit (s := i.toNat) (by omega) (fun j hj => h2 j (by omega)) hpre hk (by rw [hTd]; exact hTe), hTd]
   rw [hi] at hm hF
   rw [hTd] at hF
   obtain ⟨r, hl, hst, hpd⟩ := hF.lp
   refine k_range hP Try.func48 rfl (by rw [ev_tmp]; exact E12) hm hl (.inr hst) (.inr ⟨hpd, rfl⟩) ?_
   refine e_block_ret ?_
   refine e_block_ret ?_
   refine e_seq_ret ?_
   refine e_loop_ret ?_
   refine e_block_ret ?_
   refine e_seq_ret ?_
   obtain ⟨tt, nn, ww⟩ := h2'
   obtain ⟨fwr, fnx, fold, -, sv, l2, l3, g2, g3, hset⟩ := hF
   have fwr : 2 ≤ ww := fwr
   have fnx : 6 ≤ nn := fnx
   have fe : endLoopA ⟨tt, nn, ww⟩ 5 r = ⟨tt.set 5 (.loop { r with state := .exhausted }), nn, min ww 5⟩ := rfl
   have fs : ∀ id, id ≠ 5 → (endLoopA ⟨tt, nn, ww⟩ 5 r).t.get id = tt.get id := fun id hid => by
    rw [fe]
    show (tt.set 5 _).get id = _
    rw [Tr.get_set, if_neg hid]
   have f0 : (endLoopA ⟨tt, nn, ww⟩ 5 r).t.get 0 = _ := (fs 0 (by decide)).trans (fold 0 (by decide))
   have f2 := (fs 2 (by decide)).trans g2
   have f3 := (fs 3 (by decide)).trans g3
   have fw : 1 ≤ (endLoopA ⟨tt, nn, ww⟩ 5 r).wr := by show 1 ≤ min ww 5; omega
   unfold val_least new_least
   rw [hodd]
   simp only [Bool.false_eq_true, if_false]
   rw [hLT]
   have hres : resA Try.prog ⟨e', 22, endLoopA ⟨tt, nn, ww⟩ 5 r⟩ Try.f18.results.toList = some [sv, .int .i64 0] := by
    rw [show Try.f18.results.toList = [ResultVar.cell 2 22, ResultVar.cell 3 47] from rfl]
    exact resA_cell1 E2 T.g22 (l_all (whole_row f2 rfl) rfl) (resA_cell1 E3 T.g47 (l_all (whole_row f3 rfl) rfl) resA_nil)
   unfold goodSet at hset
   split at hset
   ·have hTn : TT = [] := List.isEmpty_iff.1 hset
    rw [hTn]
    exact gives_mk2 (L := [0]) (w := 1) (.inr rfl) gcOk_row1 hres (by rfl) (gcH_cons (gcO_old (by simp only [Bool.and_eq_true]; exact ⟨rfl, blt_i fw⟩) f0) gcH_nil) (Nat.ble_eq_true_of_le fw)
   ·rename_i id n c
    simp only [Bool.and_eq_true, beq_iff_eq] at hset
    obtain ⟨⟨⟨⟨⟨k1, k2⟩, rfl⟩, k4⟩, rfl⟩, k6⟩ := hset
    have k1 := Nat.le_of_ble_eq_true k1
    have k2 : id < nn := blt_o k2
    have k4 := blt_o k4
    unfold setOf at k6
    simp only at k6
    split at k6
    case h_2 => cases k6
    rename_i d cur low n0 hg
    split at k6
    case isFalse => cases k6
    rename_i hcc
    simp only [Bool.and_eq_true, beq_iff_eq] at hcc
    obtain ⟨⟨⟨⟨rfl, rfl⟩, hn⟩, hd⟩, -⟩ := hcc
    have hd2 : ints TT = d := by
     cases k6
     exact ints_unints hd
    have fi := (fs cur (by omega)).trans hg
    rw [outV_ne (by omega), outN_ne (by omega), hd2]
    exact gives_mk2 (L := [0, cur]) (w := 1) (.inr rfl) (gcOk_row2 f0 fi (by omega) k2) hres (gcV_tup2 (gcV_slice (by show posOf [0, cur] cur = some 1; unfold posOf; rw [List.findIdx?_cons, if_neg (by simp; omega), List.findIdx?_cons, if_pos (by simp)]; rfl)) (gcV_free rfl)) (gcH_cons (gcO_old (by simp only [Bool.and_eq_true]; exact ⟨rfl, blt_i fw⟩) f0) (gcH_cons (gcO_row (by rfl) fi (gcD_free (by rw [← hd2]; exact ints_free1 _))) gcH_nil)) (Nat.ble_eq_true_of_le fw)
   ·cases hset
theorem con_least : Con Try.prog 18 c_least := con_flat Try.func18 rfl fun us cs v new h => by
 unfold spec_least at h
 split at h
 case h_2 => cases h
 rename_i s_L c_L
 split at h
 case isFalse => cases h
 rename_i hc
 try simp only [Bool.and_eq_true] at hc
 obtain ⟨⟨q_L, r_L⟩, hok⟩ := hc
 cases h
 obtain ⟨h_L, e_L⟩ := isRows_cfs (by decide) r_L
 have hs_L := slOk_sl (n := (chunks 46 c_L).length) q_L (by decide) (rows_len (ks := T.K43) (by decide) r_L)
 have key := least_m hs_L h_L hok
 have hrows : [(chunks T.K43.length c_L).flatten] = [c_L] := by rw [e_L]
 rw [← hrows]
 exact key
theorem least_c {H : AH} {s_L : Value} {L : List (List Value)} (hr_L : Rd H 46 s_L L.length L.flatten) (h_L : cfs T.K43 L) (hok : ok_least L = true) : c_least [s_L] H = some (if L.any oddC then .tuple ⟨[.slice none 0 0, .int .i64 1]⟩ else .tuple ⟨[outV H.next 1 (leastL L).length, .int .i64 0]⟩, addRows H (if L.any oddC then [] else outN (leastL L).length (ints (leastL L)))) := by
 obtain ⟨u_L, a_L, b_L⟩ := hr_L 0
 have k_L := isRows_flat (by decide) h_L
 have k2_L : chunks 46 L.flatten = L := k_L.2
 exact flatC_at (v := val_least L) (new := new_least L) (cl_sl a_L cl_nil) (by simp only [spec_least, sl_slOk b_L (cfs_len h_L), k_L.1, k2_L, hok, Bool.and_self, if_true]) (by unfold new_least; split; rfl; exact outN_free (ints_free0 _)) (by unfold val_least; split; exact gcV_tup2 (gcV_free rfl) (gcV_free rfl); exact gcV_tup2 out_gc' (gcV_free rfl))
end Go.Proofs.Ytohhcnehcjpekaa
