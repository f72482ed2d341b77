/-
  An abstract machine for the model, part 3: what it computes, the model does, whatever is drawn. No conditions beyond those that its theorems name.
-/
import Derived.Test.YtohhcnehcjpekaaJA2
namespace Go.AM
open Go
theorem rootOf_lt {h : AH} (hw : Wf h) {id : Nat} (hid : id < h.next) : rootOf h id < h.next := by
 unfold rootOf AH.fam
 cases hg : h.t.get id with
 | none => exact hid
 | some o =>
  cases o with
  | row d c l ro n0 => exact hid
  | alias r lo n =>
   simp only
   cases hr : h.t.get r with
   | none => exact hid
   | some o =>
    cases o with
    | row d c l ro n0 => exact hw.lt _ _ hr
    | alias r' lo n => exact hid
    | map es ck => exact hid
    | loop r' => exact hid
  | map es ck => exact hid
  | loop r => exact hid
theorem hr_same {β : Ren} {h : AH} {w w' : World} (hr : HR β h w) (hs : w.heap.size ≤ w'.heap.size) (hold : ∀ b, b < w.heap.size → w'.heap[b]? = w.heap[b]?) : HR β h w' := by
 refine ⟨fun id x hx => ?_, fun id x f hx hf => ?_, fun id x es ck hx hm => ?_, fun id x r hx hm => ?_, hr.disj⟩
 ·have := hr.dom _ _ hx
  exact ⟨this.1, by omega⟩
 ·exact (hr.row _ _ _ hx hf).mono (fun _ _ h => h) (hold _ (hr.dom _ _ hx).2)
 ·obtain ⟨es', k1, k2⟩ := hr.map _ _ _ _ hx hm
  exact ⟨es', (hold _ (hr.dom _ _ hx).2).trans k1, k2⟩
 ·obtain ⟨r', k1, k2⟩ := hr.loop _ _ _ hx hm
  exact ⟨r', (hold _ (hr.dom _ _ hx).2).trans k1, k2⟩
theorem meets_quietK {P : Program} (hP : Fit P) {f : FuncId} {fn : Func} {c : Code} (hfn : P.funcs[f]? = some fn) (hb : fn.body = some c) {args : List Value} {h : AH} {v : Value} (hv : free1 v = true)
  (ht : TriK P ⟨h.t, h.next, BIG⟩ c [] ⟨Tr.ofList args 0 .leaf, max args.length fn.ntmps, ⟨h.t, h.next, BIG⟩⟩ (fun ex s => (ex = .normal ∨ ex = .ret) ∧ (∃ vs, resA P s fn.results.toList = some vs ∧ one vs = v) ∧ Nat.ble h.next s.h.wr = true)) : Meets P (.func f) args h v h := by
 have _ := hP
 intro F m β w args' hF hr hw hargs
 show CallsIn F m P f ⟨args'⟩ w _
 have key : CallsIn F.plain m P f ⟨args'⟩ w (Ends' β h w v h) := by
  refine callsIn_of_wp_marks hfn hb (hF.fn f) ?_ rfl
  obtain ⟨i1, i2⟩ := init_sound hargs fn.ntmps
  have hr' : HR β ⟨h.t, h.next, BIG⟩ w := hr.wr
  have hw' : Wf ⟨h.t, h.next, BIG⟩ := hw.wr
  have hR0 : Rst w.heap.size β ⟨Tr.ofList args 0 .leaf, max args.length fn.ntmps, ⟨h.t, h.next, BIG⟩⟩ { tmps := (⟨args'⟩ : Array Value) ++ Array.replicate (fn.ntmps - (⟨args'⟩ : Array Value).size) undef, defers := [] } w :=
   ⟨hr', hw', i1, i2, .nil⟩
  refine ht F.plain m β w hF.plain rfl hr' hw' β _ w _ hR0 (.refl _ _ _) fun ex s β' a' w' hq hR hE => ?_
  obtain ⟨hex, ⟨vs, g2, g3⟩, hq⟩ := hq
  have hq := Nat.le_of_ble_eq_true hq
  have hgoal : LeavesInM F.plain m P fn a'.tmps (Ends' β h w v h) a'.defers .returning w' := by
   obtain ⟨bs, b1, b2, b3⟩ := hR.hd.ex
   rw [b1]
   refine leaves_sound bs w' b2 b3 hR.hr hE fun w'' hr'' hE'' => ?_
   obtain ⟨v', k1, k2⟩ := results_sound hr'' hR.hw hR.he g2
   rw [g3] at k2
   have hv' : v' = v := k2.free1_eq hv
   have hold : ∀ b, b < w.heap.size → w''.heap[b]? = w.heap[b]? := by
    intro b hb
    rcases hE''.frame b hb with h1 | ⟨id, x, q1, q2, q3, q4⟩
    ·exact h1
    ·exfalso
     have : rootOf (⟨h.t, h.next, BIG⟩ : AH) id < h.next := rootOf_lt hw' (hr'.dom _ _ q1).1
     omega
   refine ⟨v', k1, v, β, by rw [hv'], .of_free1 hv, hr_same hr hE''.size hold, hw, ?_⟩
   exact {
    sub := .refl _
    new := fun id x a b => by rw [a] at b; cases b
    all := fun id a b => by omega
    blk := fun id x a b => by rw [a] at b; cases b
    size := hE''.size
    os := hE''.os
    tape := hE''.tape
    output := hE''.output
    frame := fun b hb => .inl (hold b hb)
    next := Nat.le_refl _
    wr := Nat.le_refl _
    root := fun _ _ => rfl
    ro := fun _ _ => rfl
    objs := fun _ _ _ => rfl }
  rcases hex with rfl | rfl
  ·exact hgoal
  ·exact hgoal
 exact key
open Classical in
noncomputable def cRel (R : List Value → AH → Value → Prop) : List Value → AH → Option (Value × AH) := fun args h => if hx : ∃ v, R args h v then some (Classical.choose hx, h) else none
theorem con_rel {P : Program} {f : FuncId} {fn : Func} {R : List Value → AH → Value → Prop} (hfn : P.funcs[f]? = some fn) (hb : fn.body.isSome = true) (hm : ∀ args h v, R args h v → Meets P (.func f) args h v h) : Con P f (cRel R) := by
 refine ⟨⟨fn, hfn, hb⟩, fun args h v h' hc => ?_⟩
 unfold cRel at hc
 split at hc
 ·rename_i hx
  cases hc
  exact hm _ _ _ (Classical.choose_spec hx)
 ·cases hc
theorem cRel_hit {R : List Value → AH → Value → Prop} {args : List Value} {h : AH} {v : Value} (hr : R args h v) (hu : ∀ v', R args h v' → v' = v) : cRel R args h = some (v, h) := by
 unfold cRel
 have hx : ∃ v, R args h v := ⟨v, hr⟩
 rw [dif_pos hx, hu _ (Classical.choose_spec hx)]
open Classical in
noncomputable def cAt (args0 : List Value) (h0 : AH) (v : Value) (h1 : AH) : List Value → AH → Option (Value × AH) := fun args h => if args = args0 ∧ h = h0 then some (v, h1) else none
theorem con_atH {P : Program} {f : FuncId} {fn : Func} {args0 : List Value} {h0 h1 : AH} {v : Value} (hfn : P.funcs[f]? = some fn) (hb : fn.body.isSome = true) (hm : Meets P (.func f) args0 h0 v h1) : Con P f (cAt args0 h0 v h1) := by
 refine ⟨⟨fn, hfn, hb⟩, fun args h v h' hc => ?_⟩
 unfold cAt at hc
 split at hc
 ·rename_i hx
  cases hc
  rw [hx.1, hx.2]
  exact hm
 ·cases hc
theorem cAt_hit {args0 : List Value} {h0 h1 : AH} {v : Value} : cAt args0 h0 v h1 args0 h0 = some (v, h1) := by
 unfold cAt
 rw [if_pos ⟨rfl, rfl⟩]
section
variable {P : Program} {call : Call'} {e : Tr Value} {o : Oper} {T el : TypeId} {x lo : Operand} {id off k low n0 nx wr sz n : Nat} {i : Int} {z : Value} {d vs news : List Value} {t : Tr AObj} {h : AH} {c : Call}
theorem storeC_row (hr : t.get id = some (.row d id low false n0)) (hn : n0 = d.length) (hl : off + vs.length ≤ d.length) (h1 : vs.all oneC = true) :
  storeC ⟨t, nx, wr⟩ id off vs = some ⟨t.set id (.row (splice d off vs) id low false (splice d off vs).length), nx, min wr id⟩ := by
 have hf : (⟨t, nx, wr⟩ : AH).fam id = _ := fam_row hr
 simp only [storeC, hf, h1, and_true, hr]
 rw [if_pos ⟨trivial, trivial, Nat.zero_le _, by omega⟩, splice_len (by omega), hn]
 rfl
theorem y_sliceLo (ho : o.op = .slice T x (some lo) none none) (hx : ev e x = some (.slice (some ⟨id, off, none⟩) n (n + sz))) (hl : ev e lo = some (.int .i64 i)) (hu : P.underlying T = some (.slice el)) (hz : szOf P el = some sz) (h0 : 0 < sz) (hi0 : 0 ≤ i) (hi1 : i ≤ n) :
  doOp P call e h o = some (.slice (some ⟨id, off + i.toNat * sz, none⟩) (n - i.toNat) (n - i.toNat + sz), h) := by
 rw [do_op (by rw [ho]; simp), ho]
 simp only [aop, hx, hl, evO, Option.map_some, sliceV, hu, hz, nat?, if_pos hi0, Option.isNone_some, Bool.false_eq_true, false_and, if_false, Option.isSome_none]
 rw [if_pos ⟨by omega, by omega, by omega, h0, fun q => q.elim, .inr trivial⟩, if_neg (by rintro (q | q); exact q; omega)]
 rfl
theorem y_sliceHi (ho : o.op = .slice T x none (some lo) none) (hx : ev e x = some (.slice (some ⟨id, off, none⟩) n (n + sz))) (hl : ev e lo = some (.int .i64 i)) (hu : P.underlying T = some (.slice el)) (hz : szOf P el = some sz) (h0 : 0 < sz) (hi0 : 0 ≤ i) (hi1 : i ≤ n) :
  doOp P call e h o = some (.slice (some ⟨id, off, none⟩) i.toNat (i.toNat + sz), h) := by
 rw [do_op (by rw [ho]; simp), ho]
 simp only [aop, hx, hl, evO, Option.map_some, sliceV, hu, hz, nat?, if_pos hi0, Option.isNone_some, Bool.false_eq_true, false_and, if_false, Option.isSome_none]
 rw [if_pos ⟨by omega, by omega, by omega, h0, fun q => q.elim, .inr trivial⟩, if_neg (by rintro (q | q); exact q; omega)]
 simp
theorem zerosC_len {z : List Value} : ∀ {n : Nat}, (zerosC z n).length = n * z.length
 | 0 => by simp [zerosC]
 | n + 1 => by rw [zerosC, List.length_append, zerosC_len, Nat.add_mul, Nat.one_mul, Nat.add_comm]
theorem zerosC_all {p : Value → Bool} {z : List Value} (h : z.all p = true) : ∀ {n : Nat}, (zerosC z n).all p = true
 | 0 => rfl
 | n + 1 => by rw [zerosC, List.all_append, h, zerosC_all h]; rfl
theorem y_clear (ho : o.op = .call c) (hc : c.callee = .builtin .clear) {cap : Nat} (ha : evs e c.args.toList = some [.slice (some ⟨id, off, none⟩) n cap]) (ht : c.argTypes[0]? = some T) (hu : P.underlying T = some (.slice el)) (hz : (P.info? el).bind (·.zero) = some z)
  (hzf : free1 z = true) (hz0 : 0 < z.cells.size) (hn : 0 < n) (hr : t.get id = some (.row d id low false n0)) (hn0 : n0 = d.length) (hl : off + (zerosC z.cells.toList n).length ≤ d.length) (h1 : z.cells.toList.all oneC = true) :
  doOp P call e ⟨t, nx, wr⟩ o = some (undef, ⟨t.set id (.row (splice d off (zerosC z.cells.toList n)) id low false (splice d off (zerosC z.cells.toList n)).length), nx, min wr id⟩) := by
 unfold doOp
 rw [ho]
 simp only [doCall, ha, hc, abuiltin, clearV, ht, hu, hz]
 rw [if_neg (by omega)]
 simp only [hzf, true_and]
 rw [if_pos hz0, storeC_row hr hn0 hl (zerosC_all h1)]
 rfl
theorem ya_app0 {by' m : Nat} (hu : P.underlying T = some (.slice el)) (hi : TyI P el sz by') (h0 : 0 < sz) (hn : news.length = m * sz) (hb : 2 * m * by' ≤ 281474976710656) (hm : m < BIG) (ho : news.all oneC = true) (hm0 : 0 < m) (hl : loadC ⟨t, nx, wr⟩ id 0 0 = some []) :
  appendV P ⟨t, nx, wr⟩ T (.slice (some ⟨id, 0, none⟩) 0 0) m news = some (.slice (some ⟨nx, 0, none⟩) m (m + sz), ⟨t.set nx (.row news nx BIG false news.length), nx + 1, wr⟩) := by
 obtain ⟨i, i1, i2, i3, i4⟩ := hi
 subst i2; subst i3
 unfold appendV
 simp only [hu, i1, Nat.zero_add, Nat.zero_mul]
 rw [if_pos ⟨h0, hn, hb, hm, ho, i4⟩, if_neg (by omega)]
 simp only [hl, if_true, List.nil_append]
 rfl
theorem ya_app00 {by' : Nat} {a : Option Addr} {cp : Nat} (hu : P.underlying T = some (.slice el)) (hi : TyI P el sz by') (h0 : 0 < sz) :
  appendV P ⟨t, nx, wr⟩ T (.slice a 0 cp) 0 [] = some (.slice a 0 cp, ⟨t, nx, wr⟩) := by
 obtain ⟨i, i1, i2, i3, i4⟩ := hi
 subst i2; subst i3
 unfold appendV
 simp only [hu, i1]
 rw [if_pos ⟨h0, by simp, by omega, by decide, rfl, i4⟩, if_pos trivial]
theorem b_eqlNilS {op : BinOp} {b : Bool} {xo yo : Operand} {a : Addr} {c' : Nat} (hu : P.underlying T = some (.slice el)) (hop : op = .eql ∧ b = false ∨ op = .neq ∧ b = true) : binV P op T xo yo (.slice (some a) n c') (.slice none 0 0) = some (.bool b) := by
 unfold binV
 rw [if_neg (by simp [free1, free0])]
 rcases hop with ⟨rfl, rfl⟩ | ⟨rfl, rfl⟩ <;> simp [nilEq, hu]
end
section
variable {P : Program} {call : Call'} {ops : Array Oper} {o : Oper} {rest : List Oper} {e : Tr Value} {n d nx wr : Nat} {h : AH} {K : St → Prop} {KD : St → List Inf → Prop} {acc : List Inf} {t : Tr AObj} {c : Call} {f : FuncId} {vs cap : List Value} {y : Operand}
theorem o_callC (hw : wantedA ops e o = some true) (hd : o.dst = some d) (ho : o.op = .call c) (hc : c.callee = .value y) (hy : ev e y = some (.func (.func f) ⟨[]⟩ ⟨cap⟩)) (ha : evs e c.args.toList = some vs) (hlt : d < n)
  (k : ∃ v h', call (.func f) (vs ++ cap) h = some (v, h') ∧ OpsK P call ops rest ⟨e.set d v, n, h'⟩ K) : OpsK P call ops (o :: rest) ⟨e, n, h⟩ K := by
 obtain ⟨v, h', k1, k2⟩ := k
 exact o_step hw hd (x_call ho hc hy ha (by simpa using k1)) hlt k2
end
def isNilS : Value → Bool
 | .slice none _ _ => true
 | _ => false
theorem canonS_nil {H : AH} {i k : Nat} {s u : Value} {c : List Value} (h : canonS H i k s = some (u, c)) : isNilS u = isNilS s := by
 unfold canonS at h
 split at h
 ·cases h; rfl
 ·split at h
  ·split at h
   ·split at h
    ·cases h; rfl
    ·cases h
   ·cases h
  ·cases h
 ·cases h
theorem splice_flat {k : Nat} {x : List Value} : ∀ {A : List (List Value)} {B : List (List Value)} {y : List Value}, (∀ a ∈ A, a.length = k) → y.length = k → x.length = k → splice (A ++ y :: B).flatten (A.length * k) x = (A ++ x :: B).flatten := by
 intro A B y hA hy hx
 have hl : A.flatten.length = A.length * k := by
  rw [List.length_flatten, List.map_eq_replicate_iff.2 (fun a ha => hA a ha)]
  simp
 unfold splice
 rw [List.flatten_append, List.flatten_append, ← hl, List.take_left', List.flatten_cons, List.flatten_cons, ← List.append_assoc, List.append_assoc]
 ·congr 1
  congr 1
  rw [List.drop_append, List.drop_eq_nil_of_le (by rw [List.length_append]; omega), List.nil_append, List.length_append, hx, hy, Nat.sub_self, List.drop_zero]
 ·rfl
theorem splice_tail {d x A : List Value} {off : Nat} (hd : d = A ++ d.drop off) (hA : A.length = off) (hx : off + x.length = d.length) : splice d off x = A ++ x := by
 unfold splice
 rw [hx, List.drop_length, List.append_nil]
 congr 1
 rw [hd, ← hA, List.take_left']
 rfl
end Go.AM
namespace Go.AM
open Go
section
variable {P : Program} {call : Call'} {ops : Array Oper} {o : Oper} {rest : List Oper} {e : Tr Value} {n d : Nat} {h h' : AH} {K : St → Prop} {KD : St → List Inf → Prop} {v : Value} {acc : List Inf} {t t' : Tr AObj} {nx nx' wr wr' : Nat} {x : Operand} {j s : Nat} {q w : Bool}
theorem os (hx : doOp P call e h o = some (v, h')) (k : OpsK P call ops rest ⟨e.set d v, n, h'⟩ K) (hw : wantedA ops e o = some true := by exact wA_none rfl) (hd : o.dst = some d := by rfl) (hlt : d < n := by decide) : OpsK P call ops (o :: rest) ⟨e, n, h⟩ K := o_step hw hd hx hlt k
theorem ok (k : OpsK P call ops rest ⟨e.set d undef, n, h⟩ K) (hg : o.guard = some (j, w) := by rfl) (hs : (ops[j]?).bind (·.dst) = some s := by rfl) (he : e.get s = some (.bool q) := by rfl) (hq : (q == w) = false := by rfl) (hd : o.dst = some d := by rfl) (hlt : d < n := by decide) : OpsK P call ops (o :: rest) ⟨e, n, h⟩ K := o_skip (wA_off hg hs he hq) hd hlt k
theorem ds (hx : doOp P call e ⟨t, nx, BIG⟩ o = some (v, ⟨t', nx', wr'⟩)) (k : DrawK P call ops rest ⟨e.set d v, n, ⟨t', nx', min wr wr'⟩⟩ (acc ++ [infOf e t nx o.op nx' wr']) KD) (hw : wantedA ops e o = some true := by exact wA_none rfl) (hd : o.dst = some d := by rfl) (hlt : d < n := by decide) : DrawK P call ops (o :: rest) ⟨e, n, ⟨t, nx, wr⟩⟩ acc KD := d_step hw hd hx hlt k
end
theorem d1 {p : Prop} [Decidable p] : (decide p = true) = p := decide_eq_true_eq
theorem d2 {p : Prop} [Decidable p] : decide p = false ↔ ¬p := decide_eq_false_iff_not
theorem d3 {b : Bool} : (!b) = true ↔ b = false := by cases b <;> simp
theorem d4 {b : Bool} : (!b) = false ↔ b = true := by cases b <;> simp
theorem d5 (b : Bool) : (¬b = true) = (b = false) := Bool.not_eq_true b
theorem d6 (b : Bool) : (¬b = false) = (b = true) := Bool.not_eq_false b
theorem d7 (a b : Bool) : ((a && b) = true) = (a = true ∧ b = true) := Bool.and_eq_true a b
theorem d8 {a b : Int} : ¬a < b ↔ b ≤ a := Int.not_lt
theorem d9 {a b : Int} : ¬a ≤ b ↔ b < a := Int.not_le
end Go.AM
namespace Go.AM
open Go
def LoopSame (r r' : ALoop) : Prop := r'.e = r.e ∧ r'.sz = r.sz ∧ r'.params = r.params ∧ r'.assign = r.assign ∧ r'.body = r.body
theorem LoopSame.refl (r : ALoop) : LoopSame r r := ⟨rfl, rfl, rfl, rfl, rfl⟩
theorem LoopSame.trans {a b c : ALoop} (h : LoopSame a b) (k : LoopSame b c) : LoopSame a c := ⟨k.1.trans h.1, k.2.1.trans h.2.1, k.2.2.1.trans h.2.2.1, k.2.2.2.1.trans h.2.2.2.1, k.2.2.2.2.trans h.2.2.2.2⟩
structure Fr (h h' : AH) : Prop where
 wr : h'.wr ≤ h.wr
 next : h.next ≤ h'.next
 keep : ∀ id, id < h.next → id < h'.wr → h'.t.get id = h.t.get id
 loop : ∀ id r, id < h.next → h.t.get id = some (.loop r) → ∃ r', h'.t.get id = some (.loop r') ∧ LoopSame r r'
theorem Fr.refl (h : AH) : Fr h h := ⟨Nat.le_refl _, Nat.le_refl _, fun _ _ _ => rfl, fun _ r _ hr => ⟨r, hr, .refl r⟩⟩
theorem Fr.trans {a b c : AH} (h : Fr a b) (k : Fr b c) : Fr a c := by
 refine ⟨Nat.le_trans k.wr h.wr, Nat.le_trans h.next k.next, fun id h1 h2 => ?_, fun id r h1 hr => ?_⟩
 ·rw [k.keep id (Nat.lt_of_lt_of_le h1 h.next) h2, h.keep id h1 (Nat.lt_of_lt_of_le h2 k.wr)]
 ·obtain ⟨r1, q1, q2⟩ := h.loop id r h1 hr
  obtain ⟨r2, p1, p2⟩ := k.loop id r1 (Nat.lt_of_lt_of_le h1 h.next) q1
  exact ⟨r2, p1, q2.trans p2⟩
end Go.AM
namespace Go.AM
open Go
section
variable {P : Program} {h0 : AH} {b : Code} {fr : List Frm} {Q : Ex → St → Prop} {st : St}
theorem k_loopI {α : Type} (J : α → St → Prop) (μ : α → Nat) (z0 : α) (hst : J z0 st) (round : ∀ z s, J z s → TriK P h0 b (.loop (fun s' => ∃ z', J z' s' ∧ μ z' < μ z) :: fr) s Q) : TriK P h0 (.loop b) fr st Q := by
 intro F m β0 w0 hF hro hr0 hw0 β a w Q' hR hE hQ
 have key : ∀ N z s β a w, μ z < N → J z s → Rst w0.heap.size β s a w → Evo β0 h0 w0 β s.h w → Code.roundsIn F m P b Q' N a w := by
  intro N
  induction N with
  | zero => intro z s β a w hz; omega
  | succ N ih =>
   intro z s β a w hz hvz hR hE
   rw [roundsIn_succ]
   refine round z s hvz F m β0 w0 hF hro hr0 hw0 β a w _ hR hE fun ex st' β' a' w' hq hR' hE' => ?_
   cases ex with
   | normal =>
    obtain ⟨z', k1, k2⟩ := hq
    exact ih z' st' β' a' w' (by omega) k1 hR' hE'
   | exit id => exact hQ _ st' β' a' w' hq hR' hE'
   | ret => exact hQ _ st' β' a' w' hq hR' hE'
 exact wpIn_loop_rounds (μ z0 + 1) (key (μ z0 + 1) z0 st β a w (by omega) hst hR hE)
end
end Go.AM
