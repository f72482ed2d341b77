/-
  An abstract machine for the model, part 3: what it computes, the model does, whatever is drawn. No conditions beyond those that its theorems name.
-/
import Derived.Test.YtohhcnehcjpekaaCA2
namespace Go.AM
open Go
def LoopSame (r r' : ALoop) : Prop := r'.e = r.e ∧ r'.sz = r.sz ∧ r'.params = r.params ∧ r'.assign = r.assign ∧ r'.body = r.body
theorem LoopSame.refl (r : ALoop) : LoopSame r r := ⟨rfl, rfl, rfl, rfl, rfl⟩
theorem LoopSame.trans {a b c : ALoop} (h : LoopSame a b) (k : LoopSame b c) : LoopSame a c := ⟨k.1.trans h.1, k.2.1.trans h.2.1, k.2.2.1.trans h.2.2.1, k.2.2.2.1.trans h.2.2.2.1, k.2.2.2.2.trans h.2.2.2.2⟩
structure Fr (h h' : AH) : Prop where
 wr : h'.wr ≤ h.wr
 next : h.next ≤ h'.next
 keep : ∀ id, id < h.next → id < h'.wr → h'.t.get id = h.t.get id
 loop : ∀ id r, id < h.next → h.t.get id = some (.loop r) → ∃ r', h'.t.get id = some (.loop r') ∧ LoopSame r r'
theorem Fr.refl (h : AH) : Fr h h := ⟨Nat.le_refl _, Nat.le_refl _, fun _ _ _ => rfl, fun _ r _ hr => ⟨r, hr, .refl r⟩⟩
theorem Fr.trans {a b c : AH} (h : Fr a b) (k : Fr b c) : Fr a c := by
 refine ⟨Nat.le_trans k.wr h.wr, Nat.le_trans h.next k.next, fun id h1 h2 => ?_, fun id r h1 hr => ?_⟩
 ·rw [k.keep id (Nat.lt_of_lt_of_le h1 h.next) h2, h.keep id h1 (Nat.lt_of_lt_of_le h2 k.wr)]
 ·obtain ⟨r1, q1, q2⟩ := h.loop id r h1 hr
  obtain ⟨r2, p1, p2⟩ := k.loop id r1 (Nat.lt_of_lt_of_le h1 h.next) q1
  exact ⟨r2, p1, q2.trans p2⟩
section
variable {P : Program} {h h' : AH} {v : Value} {e : Tr Value}
theorem fr_map {x : Option Value} (hx : x.map (·, h) = some (v, h')) : Fr h h' := by
 cases x with
 | none => cases hx
 | some y => cases hx; exact .refl _
theorem fr_new {o : AObj} (hw : h'.wr = h.wr := by rfl) (hn : h'.next = h.next + 1 := by rfl) (ht : h'.t = h.t.set h.next o := by rfl) : Fr h h' := by
 refine ⟨by omega, by omega, fun id h1 _ => ?_, fun id r h1 hr => ⟨r, ?_, .refl r⟩⟩
 ·rw [ht, Tr.get_set, if_neg (by omega)]
 ·rw [ht, Tr.get_set, if_neg (by omega)]; exact hr
theorem fr_newRow {cells : List Value} : Fr h (newRow h cells).2 := fr_new
theorem fr_row {root : Nat} {d d2 : List Value} {c c2 low low2 : Nat} {ro ro2 : Bool} {n0 n2 : Nat} (hr : h.t.get root = some (.row d c low ro n0)) (hw : h'.wr = min h.wr root) (hn : h'.next = h.next) (ht : h'.t = h.t.set root (.row d2 c2 low2 ro2 n2)) : Fr h h' := by
 refine ⟨by omega, by omega, fun id h1 h2 => ?_, fun id r h1 hl => ⟨r, ?_, .refl r⟩⟩
 ·rw [ht, Tr.get_set, if_neg (by omega)]
 ·rw [ht, Tr.get_set, if_neg]
  ·exact hl
  ·intro q; rw [← q, hl] at hr; cases hr
theorem fr_storeC {id off : Nat} {vs : List Value} (hs : storeC h id off vs = some h') : Fr h h' := by
 unfold storeC at hs
 split at hs
 ·split at hs
  ·split at hs
   ·rename_i hr
    cases hs
    exact fr_row hr rfl rfl rfl
   ·cases hs
  ·cases hs
 ·cases hs
theorem fr_storeV {t : TypeId} {p x : Value} (hs : storeV P h t p x = some h') : Fr h h' := by
 unfold storeV at hs
 split at hs
 ·split at hs
  ·exact fr_storeC hs
  ·cases hs
 ·cases hs
theorem fr_map2 {x : Option AH} {u : Value} (hs : x.map (u, ·) = some (v, h')) (hk : ∀ y, x = some y → Fr h y) : Fr h h' := by
 cases x with
 | none => cases hs
 | some y => cases hs; exact hk _ rfl
theorem fr_append {t : TypeId} {s : Value} {m : Nat} {news : List Value} (hs : appendV P h t s m news = some (v, h')) : Fr h h' := by
 unfold appendV at hs
 split at hs
 case h_2 => cases hs
 split at hs
 case h_2 => cases hs
 split at hs
 case isFalse => cases hs
 split at hs
 ·cases hs; exact .refl _
 split at hs
 ·split at hs
  ·cases hs; exact fr_newRow
  ·cases hs
 ·split at hs
  case h_2 => cases hs
  split at hs
  ·cases hs; exact fr_newRow
  split at hs
  case isFalse => cases hs
  split at hs
  case h_2 => cases hs
  split at hs
  ·cases hs
  split at hs
  case h_2 => cases hs
  rename_i hr
  cases hs
  refine Fr.trans (b := ⟨h.t.set _ _, h.next, min h.wr _⟩) (fr_row hr rfl rfl rfl) (fr_new rfl rfl rfl)
 ·cases hs
theorem fr_mapUpdate {t : TypeId} {m k x : Value} (hs : mapUpdateV P h t m k x = some h') : Fr h h' := by
 have one : ∀ {r : Nat} {es es' : List MapEntry} {ck ck' : Nat}, h.t.get r = some (.map es ck) → Fr h { h with t := h.t.set r (.map es' ck'), wr := min h.wr r } := by
  intro r es es' ck ck' hr
  refine ⟨Nat.min_le_left _ _, Nat.le_refl _, fun id h1 h2 => ?_, fun id r' h1 hl => ⟨r', ?_, .refl r'⟩⟩
  ·have : id < min h.wr r := h2
   rw [Tr.get_set, if_neg (by omega)]
  ·rw [Tr.get_set, if_neg]
   ·exact hl
   ·intro q; rw [← q, hl] at hr; cases hr
 unfold mapUpdateV at hs
 split at hs
 case h_2 => cases hs
 split at hs
 case isFalse => cases hs
 split at hs
 case h_2 => cases hs
 rename_i hr
 split at hs
 ·split at hs
  case h_2 => cases hs
  split at hs
  case h_2 => cases hs
  split at hs
  case isFalse => cases hs
  cases hs
  exact one hr
 ·cases hs
  exact one hr
 ·cases hs
theorem fr_copy {tys : Array TypeId} {d x : Value} (hs : copyV P h tys d x = some (v, h')) : Fr h h' := by
 unfold copyV at hs
 split at hs
 case h_2 => cases hs
 split at hs
 case h_2 => cases hs
 split at hs
 case h_2 => cases hs
 split at hs
 case isFalse => cases hs
 split at hs
 ·cases hs; exact .refl _
 split at hs
 case h_2 => cases hs
 exact fr_map2 hs fun y hy => fr_storeC hy
theorem fr_clear {tys : Array TypeId} {x : Value} (hs : clearV P h tys x = some (v, h')) : Fr h h' := by
 unfold clearV at hs
 split at hs
 case h_2 => cases hs
 split at hs
 case h_2 => cases hs
 split at hs
 ·cases hs; exact .refl _
 split at hs
 case h_2 => cases hs
 split at hs
 case isFalse => cases hs
 exact fr_map2 hs fun y hy => fr_storeC hy
theorem fr_builtin {b : Builtin} {tys : Array TypeId} {ty : TypeId} {args : List Value} (hs : abuiltin P h b tys ty args = some (v, h')) : Fr h h' := by
 unfold abuiltin at hs
 split at hs
 ·exact fr_map hs
 ·split at hs
  ·exact fr_map hs
  ·cases hs
 ·split at hs
  ·exact fr_map hs
  ·cases hs
 ·split at hs
  case h_2 => cases hs
  split at hs
  ·cases hs
  split at hs
  case h_2 => cases hs
  exact fr_append hs
 ·exact fr_copy hs
 ·exact fr_clear hs
 ·cases hs
theorem fr_box {x : Option Value} (hs : x.map (fun v => newRow h v.cells.toList) = some (v, h')) : Fr h h' := by
 cases x with
 | none => cases hs
 | some y => cases hs; exact fr_newRow
theorem fr_aop {op : Op} (hs : aop P e h op = some (v, h')) : Fr h h' := by
 unfold aop at hs
 repeat' (split at hs)
 all_goals first
  | exact fr_map hs
  | exact fr_box hs
  | exact fr_map2 hs fun y hy => fr_storeV hy
  | exact fr_map2 hs fun y hy => fr_mapUpdate hy
  | (cases hs; done)
  | (cases hs; first | exact fr_newRow | exact .refl _ | exact fr_new)
end
def execU (P : Program) (call : Call') : Nat → Code → St → Option (Ex × St)
 | 0, _, _ => none
 | n + 1, c, st =>
  match c with
  | .skip => some (.normal, st)
  | .region _ ops d => (if d then runDrawQ P call ops st else runOps P call ops ops.toList st).map fun s => (.normal, s)
  | .seq a b =>
   match execU P call n a st with
   | some (.normal, s) => execU P call n b s
   | r => r
  | .cond c x y =>
   match ev st.e c with
   | some (.bool q) => execU P call n (if q then x else y) st
   | _ => none
  | .block id b =>
   match execU P call n b st with
   | some (.exit i, s) => if i = id then some (.normal, s) else some (.exit i, s)
   | r => r
  | .loop b =>
   match execU P call n b st with
   | some (.normal, s) => execU P call n (.loop b) s
   | r => r
  | .exit id => some (.exit id, st)
  | .ret => some (.ret, st)
  | _ => none
def callU (P : Program) (fs : List FuncId) (tab : Call') : Nat → Call'
 | 0 => tab
 | n + 1 => fun f args h =>
  match tab f args h with
  | some r => some r
  | none =>
   match f with
   | .func f =>
    if fs.contains f then
    match P.funcs[f]? with
    | some fn =>
     match fn.body with
     | some c =>
      match execU P (callU P fs tab n) n c ⟨Tr.ofList args 0 .leaf, max args.length fn.ntmps, h⟩ with
      | some (.normal, st) => (resA P st fn.results.toList).map fun vs => (one vs, st.h)
      | some (.ret, st) => (resA P st fn.results.toList).map fun vs => (one vs, st.h)
      | _ => none
     | none => none
    | none => none
    else none
   | _ => none
section
variable {P : Program} {c1 c2 : Call'} {K : Nat} {I : AH → Prop}
theorem fr_big {h h' : AH} (k : Fr { h with wr := BIG } h') : Fr h { h' with wr := min h.wr h'.wr } :=
 ⟨Nat.min_le_left _ _, k.next, fun id h1 h2 => k.keep id h1 (Nat.lt_of_lt_of_le h2 (Nat.min_le_right _ _)), k.loop⟩
structure Ora (P : Program) (I : AH → Prop) (K : Nat) (c1 c2 : Call') : Prop where
 fr : ∀ f args h v h', c1 f args h = some (v, h') → Fr h h'
 sim : ∀ f args h v h', I h → c1 f args h = some (v, h') → K ≤ h'.wr → c2 f args h = some (v, h')
structure Inv (I : AH → Prop) (K : Nat) : Prop where
 step : ∀ h h', I h → Fr h h' → K ≤ h'.wr → I h'
 wr : ∀ h w, I h → I { h with wr := w }
theorem doOp_fr (ho : Ora P I K c1 c2) {e : Tr Value} {h h' : AH} {o : Oper} {v : Value} (hs : doOp P c1 e h o = some (v, h')) : Fr h h' := by
 unfold doOp at hs
 split at hs
 ·unfold doCall at hs
  split at hs
  case h_2 => cases hs
  split at hs
  ·exact fr_builtin hs
  ·split at hs
   ·exact ho.fr _ _ _ _ _ hs
   ·cases hs
  ·cases hs
 ·exact fr_aop hs
theorem doOp_sim (ho : Ora P I K c1 c2) {e : Tr Value} {h h' : AH} {o : Oper} {v : Value} (hi : I h) (hs : doOp P c1 e h o = some (v, h')) (hk : K ≤ h'.wr) : doOp P c2 e h o = some (v, h') := by
 unfold doOp at hs ⊢
 split at hs
 ·rename_i c hc
  unfold doCall at hs ⊢
  split at hs
  case h_2 => cases hs
  rename_i args ha
  split at hs
  ·exact hs
  ·rename_i f hf
   split at hs
   ·rename_i g first cap hg
    exact ho.sim _ _ _ _ _ hi hs hk
   ·cases hs
  ·cases hs
 ·exact hs
theorem step1_both (ho : Ora P I K c1 c2) {ops : Array Oper} {o : Oper} {st st' : St} (hs : step1 P c1 ops o st = some st') : Fr st.h st'.h ∧ (I st.h → K ≤ st'.h.wr → step1 P c2 ops o st = some st') := by
 unfold step1 at hs ⊢
 split at hs
 ·split at hs
  ·rename_i v h' hd
   cases hp : putE st.e st.sz o.dst v with
   | none => rw [hp] at hs; cases hs
   | some e' =>
    rw [hp] at hs
    cases hs
    refine ⟨doOp_fr ho hd, fun hi hk => ?_⟩
    rw [doOp_sim ho hi hd hk]
    simp only [hp, Option.map_some]
  ·cases hs
 ·cases hp : putE st.e st.sz o.dst undef with
  | none => rw [hp] at hs; cases hs
  | some e' =>
   rw [hp] at hs
   cases hs
   exact ⟨.refl _, fun _ _ => by simp only [Option.map_some]⟩
 ·cases hs
theorem runOps_both (ho : Ora P I K c1 c2) (hI : Inv I K) {ops : Array Oper} : ∀ {l : List Oper} {st st' : St}, runOps P c1 ops l st = some st' → Fr st.h st'.h ∧ (I st.h → K ≤ st'.h.wr → runOps P c2 ops l st = some st')
 | [], st, st', hs => by cases hs; exact ⟨.refl _, fun _ _ => rfl⟩
 | o :: l, st, st', hs => by
  simp only [runOps] at hs ⊢
  split at hs
  case h_2 => cases hs
  rename_i s1 h1
  obtain ⟨f1, k1⟩ := step1_both ho h1
  obtain ⟨f2, k2⟩ := runOps_both ho hI hs
  refine ⟨f1.trans f2, fun hi hk => ?_⟩
  have hk1 : K ≤ s1.h.wr := Nat.le_trans hk f2.wr
  rw [k1 hi hk1]
  exact k2 (hI.step _ _ hi f1 hk1) hk
theorem draw1_both (ho : Ora P I K c1 c2) (hI : Inv I K) {ops : Array Oper} {o : Oper} {st st' : St} {x : Inf} (hs : draw1 P c1 ops o st = some (st', x)) : Fr st.h st'.h ∧ (I st.h → K ≤ st'.h.wr → draw1 P c2 ops o st = some (st', x)) := by
 unfold draw1 at hs ⊢
 split at hs
 ·split at hs
  ·rename_i v h' hd
   cases hp : putE st.e st.sz o.dst v with
   | none => rw [hp] at hs; cases hs
   | some e' =>
    rw [hp] at hs
    cases hs
    refine ⟨fr_big (doOp_fr ho hd), fun hi hk => ?_⟩
    rw [doOp_sim ho (hI.wr _ _ hi) hd (Nat.le_trans hk (Nat.min_le_right _ _))]
    simp only [hp, Option.map_some]
  ·cases hs
 ·cases hp : putE st.e st.sz o.dst undef with
  | none => rw [hp] at hs; cases hs
  | some e' =>
   rw [hp] at hs
   cases hs
   exact ⟨.refl _, fun _ _ => by simp only [Option.map_some]⟩
 ·cases hs
theorem drawGo_both (ho : Ora P I K c1 c2) (hI : Inv I K) {ops : Array Oper} : ∀ {l : List Oper} {st st' : St} {xs : List Inf}, drawGo P c1 ops l st = some (st', xs) → Fr st.h st'.h ∧ (I st.h → K ≤ st'.h.wr → drawGo P c2 ops l st = some (st', xs))
 | [], st, st', xs, hs => by cases hs; exact ⟨.refl _, fun _ _ => rfl⟩
 | o :: l, st, st', xs, hs => by
  simp only [drawGo] at hs ⊢
  split at hs
  case h_2 => cases hs
  rename_i s1 x h1
  split at hs
  case h_2 => cases hs
  rename_i s2 l2 h2
  cases hs
  obtain ⟨f1, k1⟩ := draw1_both ho hI h1
  obtain ⟨f2, k2⟩ := drawGo_both ho hI h2
  refine ⟨f1.trans f2, fun hi hk => ?_⟩
  have hk1 : K ≤ s1.h.wr := Nat.le_trans hk f2.wr
  rw [k1 hi hk1]
  simp only
  rw [k2 (hI.step _ _ hi f1 hk1) hk]
theorem runDrawQ_both (ho : Ora P I K c1 c2) (hI : Inv I K) {ops : Array Oper} {st st' : St} (hs : runDrawQ P c1 ops st = some st') : Fr st.h st'.h ∧ (I st.h → K ≤ st'.h.wr → runDrawQ P c2 ops st = some st') := by
 unfold runDrawQ at hs ⊢
 split at hs
 case h_2 => cases hs
 rename_i s xs hg
 split at hs
 case isFalse => cases hs
 rename_i hc
 cases hs
 obtain ⟨f1, k1⟩ := drawGo_both ho hI hg
 refine ⟨f1, fun hi hk => ?_⟩
 rw [k1 hi hk]
 simp only
 rw [if_pos hc]
theorem execU_both (ho : Ora P I K c1 c2) (hI : Inv I K) : ∀ (n : Nat) {c : Code} {st st' : St} {ex : Ex}, execU P c1 n c st = some (ex, st') → Fr st.h st'.h ∧ (I st.h → K ≤ st'.h.wr → execU P c2 n c st = some (ex, st'))
 | 0, _, _, _, _, hs => by cases hs
 | n + 1, c, st, st', ex, hs => by
  cases c with
  | skip => cases hs; exact ⟨.refl _, fun _ _ => rfl⟩
  | exit id => cases hs; exact ⟨.refl _, fun _ _ => rfl⟩
  | ret => cases hs; exact ⟨.refl _, fun _ _ => rfl⟩
  | label l => cases hs
  | rangeFunc g ps a b => cases hs
  | scope b => cases hs
  | goto l => cases hs
  | refuse w => cases hs
  | region id ops d =>
   simp only [execU] at hs ⊢
   cases d with
   | false =>
    simp only [Bool.false_eq_true, if_false] at hs ⊢
    cases hr : runOps P c1 ops ops.toList st with
    | none => rw [hr] at hs; cases hs
    | some s =>
     rw [hr] at hs; cases hs
     obtain ⟨f, k⟩ := runOps_both ho hI hr
     exact ⟨f, fun hi hk => by rw [k hi hk]; rfl⟩
   | true =>
    simp only [if_true] at hs ⊢
    cases hr : runDrawQ P c1 ops st with
    | none => rw [hr] at hs; cases hs
    | some s =>
     rw [hr] at hs; cases hs
     obtain ⟨f, k⟩ := runDrawQ_both ho hI hr
     exact ⟨f, fun hi hk => by rw [k hi hk]; rfl⟩
  | seq a b =>
   simp only [execU] at hs ⊢
   cases ha : execU P c1 n a st with
   | none => rw [ha] at hs; cases hs
   | some q =>
    obtain ⟨ex1, s1⟩ := q
    obtain ⟨f1, k1⟩ := execU_both ho hI n ha
    rw [ha] at hs
    cases ex1 with
    | normal =>
     obtain ⟨f2, k2⟩ := execU_both ho hI n hs
     refine ⟨f1.trans f2, fun hi hk => ?_⟩
     have hk1 : K ≤ s1.h.wr := Nat.le_trans hk f2.wr
     rw [k1 hi hk1]
     exact k2 (hI.step _ _ hi f1 hk1) hk
    | exit i => cases hs; exact ⟨f1, fun hi hk => by rw [k1 hi hk]⟩
    | ret => cases hs; exact ⟨f1, fun hi hk => by rw [k1 hi hk]⟩
  | cond c x y =>
   simp only [execU] at hs ⊢
   split at hs
   ·rename_i q hq
    exact execU_both ho hI n hs
   ·cases hs
  | block id b =>
   simp only [execU] at hs ⊢
   cases ha : execU P c1 n b st with
   | none => rw [ha] at hs; cases hs
   | some q =>
    obtain ⟨ex1, s1⟩ := q
    obtain ⟨f1, k1⟩ := execU_both ho hI n ha
    rw [ha] at hs
    have e : s1 = st' := by
     cases ex1 with
     | normal => cases hs; rfl
     | exit i => simp only at hs; split at hs <;> (cases hs; rfl)
     | ret => cases hs; rfl
    subst e
    exact ⟨f1, fun hi hk => by rw [k1 hi hk]; exact hs⟩
  | loop b =>
   simp only [execU] at hs ⊢
   cases ha : execU P c1 n b st with
   | none => rw [ha] at hs; cases hs
   | some q =>
    obtain ⟨ex1, s1⟩ := q
    obtain ⟨f1, k1⟩ := execU_both ho hI n ha
    rw [ha] at hs
    cases ex1 with
    | normal =>
     obtain ⟨f2, k2⟩ := execU_both ho hI n hs
     refine ⟨f1.trans f2, fun hi hk => ?_⟩
     have hk1 : K ≤ s1.h.wr := Nat.le_trans hk f2.wr
     rw [k1 hi hk1]
     exact k2 (hI.step _ _ hi f1 hk1) hk
    | exit i => cases hs; exact ⟨f1, fun hi hk => by rw [k1 hi hk]⟩
    | ret => cases hs; exact ⟨f1, fun hi hk => by rw [k1 hi hk]⟩
def tabC (c1 c2 : Call') : Call' := fun f args h => match c1 f args h with
 | some _ => c2 f args h
 | none => none
theorem tabC_sound (hs : CallSound P c2) : CallSound P (tabC c1 c2) := by
 refine ⟨fun f args h r hc => ?_, fun f args h v h' hc => ?_⟩
 ·unfold tabC at hc; split at hc
  ·exact hs.has _ _ _ _ hc
  ·cases hc
 ·unfold tabC at hc; split at hc
  ·exact hs.meets _ _ _ _ _ hc
  ·cases hc
theorem callU_ora (ho : Ora P I K c1 c2) (hI : Inv I K) {fs : List FuncId} : ∀ n, Ora P I K (callU P fs c1 n) (callU P fs (tabC c1 c2) n)
 | 0 => ⟨ho.fr, fun f args h v h' hi hs hk => by
   show tabC c1 c2 f args h = _
   have hs : c1 f args h = some (v, h') := hs
   unfold tabC; rw [hs]; exact ho.sim _ _ _ _ _ hi hs hk⟩
 | n + 1 => by
  have ih := callU_ora ho hI (fs := fs) n
  have key : ∀ f args h v h', callU P fs c1 (n + 1) f args h = some (v, h') → Fr h h' ∧ (I h → K ≤ h'.wr → callU P fs (tabC c1 c2) (n + 1) f args h = some (v, h')) := by
   intro f args h v h' hs
   simp only [callU] at hs ⊢
   split at hs
   ·rename_i r hr
    cases hs
    refine ⟨ho.fr _ _ _ _ _ hr, fun hi hk => ?_⟩
    have : tabC c1 c2 f args h = some (v, h') := by unfold tabC; rw [hr]; exact ho.sim _ _ _ _ _ hi hr hk
    rw [this]
   ·rename_i hr
    have e2 : tabC c1 c2 f args h = none := by unfold tabC; rw [hr]
    rw [e2]
    simp only
    split at hs
    case h_2 => cases hs
    split at hs
    case isFalse => cases hs
    rename_i hm
    simp only [hm, if_true]
    split at hs
    case h_2 => cases hs
    rename_i fn hfn
    split at hs
    case h_2 => cases hs
    rename_i c hb
    split at hs
    ·rename_i st hx
     obtain ⟨f1, k1⟩ := execU_both ih hI n hx
     obtain ⟨vs, q1, q2⟩ := map_inv' hs
     cases q2
     refine ⟨f1, fun hi hk => ?_⟩
     simp only [k1 hi hk]
     exact hs
    ·rename_i st hx
     obtain ⟨f1, k1⟩ := execU_both ih hI n hx
     obtain ⟨vs, q1, q2⟩ := map_inv' hs
     cases q2
     refine ⟨f1, fun hi hk => ?_⟩
     simp only [k1 hi hk]
     exact hs
    ·cases hs
  exact ⟨fun f args h v h' hs => (key f args h v h' hs).1, fun f args h v h' hi hs hk => (key f args h v h' hs).2 hi hk⟩
theorem execU_eq {call : Call'} : ∀ (n : Nat) {c : Code} {st : St} {r : Ex × St}, execU P call n c st = some r → execQ P call false n c st = some r
 | 0, _, _, _, h => by cases h
 | n + 1, c, st, r, h => by
  cases c with
  | skip => exact h
  | exit id => exact h
  | ret => exact h
  | label l => cases h
  | rangeFunc g ps a b => cases h
  | scope b => cases h
  | goto l => cases h
  | refuse w => cases h
  | region id ops d => exact h
  | seq a b =>
   simp only [execU] at h
   simp only [execQ]
   cases ha : execU P call n a st with
   | none => rw [ha] at h; cases h
   | some q =>
    rw [ha] at h
    rw [execU_eq n ha]
    obtain ⟨ex, s⟩ := q
    cases ex with
    | normal => exact execU_eq n h
    | exit i => exact h
    | ret => exact h
  | cond c x y =>
   simp only [execU] at h
   simp only [execQ]
   split at h
   ·rename_i q hq
    try simp only [hq]
    exact execU_eq n h
   ·cases h
  | block id b =>
   simp only [execU] at h
   simp only [execQ]
   cases ha : execU P call n b st with
   | none => rw [ha] at h; cases h
   | some q =>
    rw [ha] at h
    rw [execU_eq n ha]
    exact h
  | loop b =>
   simp only [execU] at h
   simp only [execQ]
   cases ha : execU P call n b st with
   | none => rw [ha] at h; cases h
   | some q =>
    rw [ha] at h
    rw [execU_eq n ha]
    obtain ⟨ex, s⟩ := q
    cases ex with
    | normal => exact execU_eq n h
    | exit i => exact h
    | ret => exact h
theorem callU_sound (hP : Fit P) {fs : List FuncId} (hk : progOk P fs = true) {tab : Call'} (ht : CallSound P tab) : ∀ n, CallSound P (callU P fs tab n)
 | 0 => ht
 | n + 1 => by
  have ih := callU_sound hP hk ht n
  refine ⟨fun f args h r hc => ?_, fun f args h v h' hc => ?_⟩
  ·simp only [callU] at hc
   split at hc
   ·rename_i r' hr'
    exact ht.has _ _ _ _ hr'
   ·split at hc
    case isFalse => cases hc
    split at hc
    ·rename_i fn hfn
     split at hc
     ·rename_i c hb
      exact ⟨fn, hfn, by rw [hb]; rfl⟩
     ·cases hc
    ·cases hc
  ·simp only [callU] at hc
   split at hc
   ·rename_i r' hr'
    cases hc
    exact ht.meets _ _ _ _ _ hr'
   split at hc
   case h_2 => cases hc
   split at hc
   case isFalse => cases hc
   rename_i hmem
   split at hc
   case h_2 => cases hc
   rename_i fn hfn
   split at hc
   case h_2 => cases hc
   rename_i c hb
   split at hc
   ·rename_i st hx
    obtain ⟨vs, h1, h2⟩ := map_inv' hc
    cases h2
    exact func_meets hP.named hP.mix ih hfn hb (execQ_eq n (progOk_code hk hmem hfn hb) (execU_eq n hx)) (.inl rfl) h1
   ·rename_i st hx
    obtain ⟨vs, h1, h2⟩ := map_inv' hc
    cases h2
    exact func_meets hP.named hP.mix ih hfn hb (execQ_eq n (progOk_code hk hmem hfn hb) (execU_eq n hx)) (.inr rfl) h1
   ·cases hc
theorem ora_meets (hP : Fit P) {fs : List FuncId} (hk : progOk P fs = true) (hs : CallSound P c2) (ho : Ora P I K c1 c2) (hI : Inv I K) {n : Nat} {f : FuncId} {args : List Value} {h h' : AH} {v : Value} (hi : I h) (hc : callU P fs c1 n (.func f) args h = some (v, h')) (hw : K ≤ h'.wr) :
  Meets P (.func f) args h v h' := (callU_sound hP hk (tabC_sound hs) n).meets _ _ _ _ _ ((callU_ora ho hI n).sim _ _ _ _ _ hi hc hw)
end
end Go.AM
namespace Go.AM
open Go
section
variable {P : Program} {h0 : AH} {b : Code} {fr : List Frm} {Q : Ex → St → Prop} {st : St}
theorem k_loopI {α : Type} (J : α → St → Prop) (μ : α → Nat) (z0 : α) (hst : J z0 st) (round : ∀ z s, J z s → TriK P h0 b (.loop (fun s' => ∃ z', J z' s' ∧ μ z' < μ z) :: fr) s Q) : TriK P h0 (.loop b) fr st Q := by
 intro F m β0 w0 hF hro hr0 hw0 β a w Q' hR hE hQ
 have key : ∀ N z s β a w, μ z < N → J z s → Rst w0.heap.size β s a w → Evo β0 h0 w0 β s.h w → Code.roundsIn F m P b Q' N a w := by
  intro N
  induction N with
  | zero => intro z s β a w hz; omega
  | succ N ih =>
   intro z s β a w hz hvz hR hE
   rw [roundsIn_succ]
   refine round z s hvz F m β0 w0 hF hro hr0 hw0 β a w _ hR hE fun ex st' β' a' w' hq hR' hE' => ?_
   cases ex with
   | normal =>
    obtain ⟨z', k1, k2⟩ := hq
    exact ih z' st' β' a' w' (by omega) k1 hR' hE'
   | exit id => exact hQ _ st' β' a' w' hq hR' hE'
   | ret => exact hQ _ st' β' a' w' hq hR' hE'
 exact wpIn_loop_rounds (μ z0 + 1) (key (μ z0 + 1) z0 st β a w (by omega) hst hR hE)
theorem b_eqlNilM {T : TypeId} {kt el : TypeId} {b : Bool} {op : BinOp} {xo yo : Operand} {m : Nat} (hu : P.underlying T = some (.map kt el)) (hop : op = .eql ∧ b = false ∨ op = .neq ∧ b = true) : binV P op T xo yo (.map (some m)) (.map none) = some (.bool b) := by
 unfold binV
 rw [if_neg (by simp [free1, free0])]
 rcases hop with ⟨rfl, rfl⟩ | ⟨rfl, rfl⟩ <;> simp [nilEq, hu]
theorem x_lenM {call : Call'} {e : Tr Value} {h : AH} {o : Oper} {c : Call} {T kt el : TypeId} {m : Nat} {es : List MapEntry} {ck : Nat} (ho : o.op = .call c) (hc : c.callee = .builtin .len) (ha : evs e c.args.toList = some [.map (some m)]) (ht : c.argTypes[0]? = some T) (hu : P.underlying T = some (.map kt el)) (hm : h.t.get m = some (.map es ck)) :
  doOp P call e h o = some (.int .i64 es.length, h) := by
 unfold doOp
 rw [ho]
 simp only [doCall, ha, hc, abuiltin, lenV, ht, hu, mapOf, hm, Option.map_some]
 rfl
end
end Go.AM
