/-
  An abstract machine for the model, part 2: what it computes, the model does, whatever is drawn. No conditions beyond those that its theorems name.
-/
import Derived.OrdersIn
import Derived.LoopNIn
import Derived.TacticsIn
import Derived.RangeFuncCalls
import Derived.RangeFuncRecord
import Derived.IntWalk
import Derived.Laws.StructEq
import Derived.ChangeKeysEq
import Derived.Test.YtmladpbadglecaaGreatDoorHA1
set_option linter.unusedSimpArgs false
set_option linter.unusedVariables false
namespace Go.AM
section
variable {P : Program} {β : Ren} {h : AH} {w : World} {e : Tr Value} {a : Act}
theorem lenV_sound (hr : HR β h w) {tys : Array TypeId} {ty : TypeId} {x x' v : Value} (hl : lenV P h tys ty x = some v) (hx : VR β x x') : (Builtin.len_ tys ty #[x']).run P w = .ok v w /\ AM.free v = true := by
 unfold lenV at hl
 split at hl
 ·rename_i t m ht
  split at hl
  case h_2 => cases hl
  rename_i k el es hu hm
  cases hl
  refine ⟨?_, rfl⟩
  rcases mapOf_sound hr hm hx with ⟨rfl, he⟩ | ⟨g, es', ck, rfl, hg, he⟩
  ·subst he
   simp [Builtin.len_, ht, run_underlying hu]
  ·have := he.1
   simp only [Array.length_toList] at this
   simp [Builtin.len_, ht, run_underlying hu, run_getMap hg, this]
 ·rename_i t ad n c ht
  split at hl
  case h_2 => cases hl
  rename_i el hu
  cases hl
  refine ⟨?_, rfl⟩
  have : ∃ ad' c', x' = .slice ad' n c' := by cases hx <;> exact ⟨_, _, rfl⟩
  obtain ⟨ad', c', rfl⟩ := this
  simp [Builtin.len_, ht, run_underlying hu]
 ·split at hl
  case isFalse => cases hl
  rename_i hf
  obtain ⟨k1, k2⟩ := keep_some hl
  rw [hx.free1_eq hf]
  exact ⟨quick_run k1 w, k2⟩
 ·cases hl
theorem copy_sound (hr : HR β h w) (hw : Wf h) {tys : Array TypeId} {ty : TypeId} {d d' x x' v : Value} {h' : AH} (hl : copyV P h tys d x = some (v, h')) (hd : VR β d d') (hx : VR β x x') :
  ∃ w', (Builtin.copy_ tys ty #[d', x']).run P w = .ok v w' /\ AM.free v = true /\ HR β h' w' /\ Wf h' /\ Evo β h w β h' w' := by
 unfold copyV at hl
 split at hl
 case h_2 => cases hl
 rename_i t ad len cap ht
 split at hl
 case h_2 => cases hl
 rename_i el m cs hu hc
 cases hsz : szOf P el with
 | none => rw [hsz] at hl; cases hl
 | some sz =>
 rw [hsz] at hl
 simp only at hl
 split at hl
 case isFalse => cases hl
 rename_i hcl
 obtain ⟨k1, cs', k2, _, k4⟩ := cellsV_sound hr hw hu hsz hc hx
 have k5 := k4 (min m len) (Nat.min_le_left _ _) hcl
 have shape : ∃ ad' cap', d' = .slice ad' len cap' := by cases hd <;> exact ⟨_, _, rfl⟩
 split at hl
 ·rename_i h0
  cases hl
  obtain ⟨ad', cap', rfl⟩ := shape
  refine ⟨w, ?_, rfl, hr, hw, .refl _ _ _⟩
  have hm : Nat.min m len = 0 := h0
  rw [h0] at k5
  simp only [Nat.zero_mul, List.take_zero] at k5
  cases ad' with
  | none => simp [Builtin.copy_, ht, run_underlying hu, k1, run_sz hsz, hm, k5]
  | some x0 => simp [Builtin.copy_, ht, run_underlying hu, k1, run_sz hsz, hm, k5, storeCells]
 ·rename_i h0
  split at hl
  case h_2 => cases hl
  rename_i id off
  obtain ⟨h2, h3, h4⟩ := map_inv' hl
  cases h4
  obtain ⟨b, a', cap', hb, hblo, hcr, ha, rfl⟩ := slice_inv hd
  have := hcr.le
  have ha' : a' = b.at_ off := ha.resolve_left ow
  subst ha'
  obtain ⟨w', q1, q2, q3, q4⟩ := storeC_sound P hr hw h3 hb (k2.take (min m len * sz))
  refine ⟨w', ?_, rfl, q2, q3, q4⟩
  have hm : Nat.min m len = min m len := rfl
  simp only [Builtin.copy_, ht, List.getElem?_toArray, List.getElem?_cons_zero, List.getElem?_cons_succ, Sem.run_bind, run_underlying hu, Result.andThen_ok, k1, run_sz hsz, hm, k5, q1, Sem.run_pure]
theorem clear_sound (hr : HR β h w) (hw : Wf h) {tys : Array TypeId} {ty : TypeId} {x x' v : Value} {h' : AH} (hl : clearV P h tys x = some (v, h')) (hx : VR β x x') :
  ∃ w', (Builtin.clear_ tys ty #[x']).run P w = .ok v w' /\ AM.free v = true /\ HR β h' w' /\ Wf h' /\ Evo β h w β h' w' := by
 unfold clearV at hl
 split at hl
 case h_2 => cases hl
 rename_i t ad len cap ht
 split at hl
 case h_2 => cases hl
 rename_i el hu
 split at hl
 ·rename_i h0
  subst h0
  cases hl
  have : ∃ ad' cap', x' = .slice ad' 0 cap' := by cases hx <;> exact ⟨_, _, rfl⟩
  obtain ⟨ad', cap', rfl⟩ := this
  refine ⟨w, ?_, rfl, hr, hw, .refl _ _ _⟩
  cases ad' <;> simp [Builtin.clear_, ht, run_underlying hu, undef]
 ·rename_i h0
  split at hl
  case h_2 => cases hl
  rename_i z id off hz
  split at hl
  case isFalse => cases hl
  rename_i hc
  obtain ⟨h2, h3, h4⟩ := map_inv' hl
  cases h4
  obtain ⟨b, a', cap', hb, hblo, hcr, ha, rfl⟩ := slice_inv hx
  have := hcr.le
  have ha' : a' = b.at_ off := ha.resolve_left ow
  subst ha'
  obtain ⟨w', q1, q2, q3, q4⟩ := storeC_sound P hr hw h3 hb (VRl.free (zerosC_free (cells_free hc.1) len))
  refine ⟨w', ?_, rfl, q2, q3, q4⟩
  have hzz : (Builtin.zeroCells z.cells len).toList = zerosC z.cells.toList len := by
   unfold Builtin.zeroCells
   rw [zeros_range rfl hc.2]
  obtain ⟨n, rfl⟩ : ∃ n, len = n + 1 := ⟨len - 1, by omega⟩
  simp only [Builtin.clear_, ht, List.getElem?_toArray, List.getElem?_cons_zero, Sem.run_bind, run_underlying hu, Result.andThen_ok, run_zeroV hz, hzz, q1, Sem.run_pure, undef]
theorem VRl.two {x y : Value} {l' : List Value} (hv : VRl β [x, y] l') : ∃ x' y', l' = [x', y'] /\ VR β x x' /\ VR β y y' := by
 match l', hv.1 with
 | [x', y'], _ => exact ⟨x', y', rfl, hv.2 0 _ _ rfl rfl, hv.2 1 _ _ rfl rfl⟩
theorem VRl.one {x : Value} {l' : List Value} (hv : VRl β [x] l') : ∃ x', l' = [x'] /\ VR β x x' := by
 match l', hv.1 with
 | [x'], _ => exact ⟨x', rfl, hv.2 0 _ _ rfl rfl⟩
theorem abuiltin_sound (hr : HR β h w) (hw : Wf h) {b : Builtin} {tys : Array TypeId} {ty : TypeId} {cons : Array Bool} {args args' : List Value} {v : Value} {h' : AH}
  (hb : abuiltin P h b tys ty args = some (v, h')) (hv : VRl β args args') : OkOp P β h w (builtin b tys ty cons ⟨args'⟩) v h' := by
 unfold abuiltin at hb
 split at hb
 ·rename_i x
  obtain ⟨x', rfl, hx⟩ := hv.one
  obtain ⟨u, h1, h2⟩ := map_inv' hb
  cases h2
  obtain ⟨k1, k2⟩ := lenV_sound hr h1 hx
  exact .same hr hw k1 (.of_free k2)
 ·split at hb
  case isFalse => cases hb
  rename_i hf
  obtain ⟨u, h1, h2⟩ := map_inv' hb
  cases h2
  obtain ⟨k1, k2⟩ := keep_some h1
  rw [hv.free_eq hf]
  exact .same hr hw (quick_run k1 w) (.of_free k2)
 ·split at hb
  case isFalse => cases hb
  rename_i hf
  obtain ⟨u, h1, h2⟩ := map_inv' hb
  cases h2
  obtain ⟨k1, k2⟩ := keep_some h1
  rw [hv.free_eq hf]
  exact .same hr hw (quick_run k1 w) (.of_free k2)
 ·rename_i s x
  obtain ⟨s', x', rfl, hs, hx⟩ := hv.two
  split at hb
  case h_2 => cases hb
  rename_i t u h0 h1
  split at hb
  case h_2 => cases hb
  rename_i m cs hc
  split at hc
  ·obtain ⟨v', w', β', k1, k2, k3, k4, k5⟩ := append_soundZ (ty := ty) hr hw h0 h1 hc hb hs hx
   exact .val k1 k2 k3 k4 k5
  ·rename_i hz
   obtain ⟨v', w', β', k1, k2, k3, k4, k5⟩ := append_sound (ty := ty) hr hw h0 h1 (by simpa using hz) hc hb hs hx
   exact .val k1 k2 k3 k4 k5
 ·rename_i d x
  obtain ⟨d', x', rfl, hd, hx⟩ := hv.two
  obtain ⟨w', k1, k2, k3, k4, k5⟩ := copy_sound (ty := ty) hr hw hb hd hx
  exact .val k1 (.of_free k2) k3 k4 k5
 ·rename_i x
  obtain ⟨x', rfl, hx⟩ := hv.one
  obtain ⟨w', k1, k2, k3, k4, k5⟩ := clear_sound (ty := ty) hr hw hb hx
  exact .val k1 (.of_free k2) k3 k4 k5
 ·obtain ⟨x', rfl, hx⟩ := hv.one
  split at hb
  case h_2 => cases hb
  rename_i t ht
  split at hb
  case h_2 => cases hb
  rename_i el hu
  cases hb
  rw [hx.free1_eq rfl]
  exact .same hr hw (by simp [Builtin.cap_, ht, run_underlying hu, goInt]) (.of_free rfl)
 ·cases hb
structure Named (P : Program) : Prop where
 enter : ∀ (f : FuncId) (fn : Func), P.funcs[f]? = some fn -> fn.body.isSome = true -> (fn.name == "runtime.NumGoroutine") = false
 ext : ∀ f, xKind f ≠ 0 -> ∃ fn, P.funcs[f]? = some fn /\ fn.body = none /\ (fn.name == "runtime.NumGoroutine") = false /\ Extern.findNext fn = none /\ Extern.find fn = some (xSem (xKind f))
structure Open (F : Fence) : Prop where
 fn : ∀ f, F.fn f
 depth : F.depth = none
theorem Open.room {F : Fence} (h : Open F) (k : Nat) : F.room k := fun d hd => by rw [h.depth] at hd; cases hd
theorem Open.deep {F : Fence} (h : Open F) {n : Nat} : F.depth.isSome = true -> 1 <= n := fun hd => by rw [h.depth] at hd; cases hd
theorem open_wide : Open Fence.wide := ⟨fun _ => trivial, rfl⟩
theorem Open.inRound {F : Fence} (h : Open F) (l : Nat) : Open (F.inRound l) := ⟨h.fn, h.depth⟩
theorem Open.plain {F : Fence} (h : Open F) : Open F.plain := ⟨h.fn, h.depth⟩
def Ends' (β : Ren) (h : AH) (w : World) (v : Value) (h' : AH) : Ending -> World -> Prop :=
 fun e w' => ∃ v' β', e = .returned v' /\ VR β' v v' /\ HR β' h' w' /\ Wf h' /\ Evo β h w β' h' w'
def Meets (P : Program) (f : Fn) (args : List Value) (h : AH) (v : Value) (h' : AH) : Prop :=
 ∀ F n β w args', Open F -> HR β h w -> Wf h -> VRl β args args' →
  match f with
  | .func f => CallsIn F n P f ⟨args'⟩ w (Ends' β h w v h')
  | .yield l => ∀ x, β l = some x -> ∃ fn tmps assign body, (Instr.yield x.g ⟨args'⟩).run P w = .ok (.round x.g fn tmps assign body) w /\ RoundIn F n P x.g fn tmps assign body w (Ends' β h w v h')
  | _ => False
structure CallSound (P : Program) (call : Call') : Prop where
 has : ∀ f args h r, call (.func f) args h = some r -> ∃ fn, P.funcs[f]? = some fn /\ fn.body.isSome = true
 meets : ∀ f args h v h', call f args h = some (v, h') -> Meets P f args h v h'
def Done (β : Ren) (h : AH) (w : World) (v : Value) (h' : AH) (v' : Value) (w' : World) : Prop := ∃ β', VR β' v v' /\ HR β' h' w' /\ Wf h' /\ Evo β h w β' h' w'
theorem callFunc_run {f : FuncId} {fn : Func} {args : Array Value} (hN : Named P) (h1 : P.funcs[f]? = some fn) (h2 : fn.body.isSome = true) : (callFunc f args).run P w = .ok (.enter f args) w := by
 have q3 := hN.enter _ _ h1 h2
 have hnn : fn.body.isNone = false := by
  cases hbd : fn.body with
  | none => rw [hbd] at h2; cases h2
  | some _ => rfl
 simp only [callFunc, Sem.run_bind, run_program, Result.andThen_ok, h1, q3]
 simp [hnn]
theorem ext_run {f : FuncId} {args : List Value} {v : Value} (hN : Named P) (h : extV P (.func f) args = some v) : args.all free1 = true /\ AM.free v = true /\ (callFunc f ⟨args⟩).run P w = .ok (.value v) w := by
 unfold extV at h
 simp only at h
 split at h
 ·cases h
 rename_i hk
 split at h
 case isFalse => cases h
 rename_i hf
 obtain ⟨k1, k2⟩ := keep_some h
 obtain ⟨fn, q1, q2, q3, q4, q5⟩ := hN.ext f hk
 refine ⟨hf, k2, ?_⟩
 have hb : fn.body.isNone = true := by rw [q2]; rfl
 simp only [callFunc, Sem.run_bind, run_program, Result.andThen_ok, q1, q3, Bool.false_eq_true, if_false, hb, if_true, q4, q5]
 have hm : (mark (Mark.extern f)).run P w = .ok () w := rfl
 simp only [Sem.run_bind, hm, Result.andThen_ok, quick_run k1 w, Sem.run_pure]
theorem doOp_sound {F : Fence} {n : Nat} {call : Call'} (hF : Open F) (hN : Named P) (hcall : CallSound P call) (hr : HR β h w) (hw : Wf h) (he : EnvW β e a.tmps) {o : Oper} {v : Value} {h' : AH} (ho : doOp P call e h o = some (v, h'))
  {K : Act -> World -> Prop} {Q : Exit -> Act -> World -> Prop} (hK : ∀ v' w', Done β h w v h' v' w' -> K (a.put o.dst v') w') : o.wpIn F n P a w K Q := by
 have hnd : ∀ c, o.op ≠ .defer c := fun c hc => by
  unfold doOp at ho
  rw [hc] at ho
  cases ho
 have fin : OkOp P β h w (execOp a.eval o) v h' -> o.wpIn F n P a w K Q := by
  rintro ⟨v', w', β', k1, k2, k3, k4, k5⟩
  refine ⟨fun f _ => hF.fn f, ?_⟩
  rw [Oper.semAt_eq _ _ _ hnd]
  rcases k1 with k1 | ⟨k1, rfl⟩
  ·rw [k1]; exact hK _ _ ⟨β', k2, k3, k4, k5⟩
  ·rw [k1]; exact hK _ _ ⟨β', k2, k3, k4, k5⟩
 have ho0 := ho
 unfold doOp at ho
 split at ho
 case h_2 => exact fin (aop_sound hr hw he o ho)
 rename_i c hop
 unfold doCall at ho
 cases hargs : evs e c.args.toList with
 | none => rw [hargs] at ho; cases ho
 | some args =>
 rw [hargs] at ho
 have hv := evs_sound he hargs
 simp only at ho
 split at ho
 ·rename_i b hb
  refine fin ?_
  have := abuiltin_sound (w := w) (cons := c.args.map fun | .const _ => true | _ => false) hr hw ho hv
  obtain ⟨v', w', β', k1, k2⟩ := this
  refine ⟨v', w', β', ?_, k2⟩
  have e1 : execOp a.eval o = builtin b c.argTypes o.type (c.args.map fun | .const _ => true | _ => false) ⟨c.args.toList.map a.eval⟩ := by
   have : (⟨c.args.toList.map a.eval⟩ : Array Value) = c.args.map a.eval := Array.ext' (by simp)
   rw [this]
   simp only [execOp, hop, resolve, hb]
   rfl
  rw [e1]
  exact k1
 ·rename_i f hf
  split at ho
  case h_2 => cases ho
  rename_i fid first cap hfv
  have hfn := ev_sound he hfv
  have harr : (⟨c.args.toList.map a.eval⟩ : Array Value) = c.args.map a.eval := Array.ext' (by simp)
  generalize heq : a.eval f = fv at hfn
  cases hfn with
  | free _ hf => simp [free0] at hf
  | yield hb =>
   rename_i id x
   simp only [List.nil_append, List.append_nil] at ho
   have ho : call (.yield id) args h = some (v, h') := ho
   obtain ⟨fn, tmps, assign, body, q1, q2⟩ := hcall.meets _ _ _ _ _ ho F (n - 1) β w _ hF hr hw hv x hb
   refine ⟨fun f _ => hF.fn f, ?_⟩
   rw [Oper.semAt_eq _ _ _ hnd]
   have e1 : (execOp a.eval o).run P w = .ok (.round x.g fn tmps assign body) w := by
    rw [<-q1, harr]
    simp only [execOp, hop, resolve, hf, heq, Deferred.ofValue, invoke, Sem.run_bind, Sem.run_pure, Result.andThen_ok, Array.empty_append]
   rw [e1, Oper.uponIn_round]
   refine ⟨hF.deep, q2.mono fun en w' hen => ?_⟩
   obtain ⟨v', β', rfl, p⟩ := hen
   exact hK _ _ ⟨β', p⟩
  | func m1 m2 m3 m4 =>
   rename_i g first' cap'
   have hall : VRl β (first.toList ++ args ++ cap.toList) (first'.toList ++ c.args.toList.map a.eval ++ cap'.toList) := by
    refine VRl.append (VRl.append ⟨by simpa using m1, fun i u u' x y => m2 i u u' (by simpa using x) (by simpa using y)⟩ hv) ⟨by simpa using m3, fun i u u' x y => m4 i u u' (by simpa using x) (by simpa using y)⟩
   have e2 : (⟨first'.toList ++ c.args.toList.map a.eval ++ cap'.toList⟩ : Array Value) = first' ++ ⟨c.args.toList.map a.eval⟩ ++ cap' := Array.ext' (by simp)
   split at ho
   ·rename_i u hu
    cases ho
    obtain ⟨k1, k2, k3⟩ := ext_run (w := w) hN hu
    have hq := hall.free_eq k1
    refine fin (.pure hr hw ?_ (.of_free k2))
    have e1 : (execOp a.eval o).run P w = (callFunc g (first' ++ ⟨c.args.toList.map a.eval⟩ ++ cap')).run P w := by
     rw [harr]
     simp only [execOp, hop, resolve, hf, heq, Deferred.ofValue, invoke, Sem.run_bind, Sem.run_pure, Result.andThen_ok]
    rw [e1, <-e2, hq]
    exact k3
   obtain ⟨fn, q1, q2⟩ := hcall.has _ _ _ _ ho
   refine ⟨fun f _ => hF.fn f, ?_⟩
   rw [Oper.semAt_eq _ _ _ hnd]
   have e1 : (execOp a.eval o).run P w = .ok (.enter g (first' ++ ⟨c.args.toList.map a.eval⟩ ++ cap')) w := by
    rw [harr]
    simp only [execOp, hop, resolve, hf, heq, Deferred.ofValue, invoke, Sem.run_bind, Sem.run_pure, Result.andThen_ok, callFunc_run hN q1 q2]
   rw [e1, Oper.uponIn_enter]
   have := hcall.meets _ _ _ _ _ ho F (n - 1) β w _ hF hr hw hall
   simp only at this
   rw [e2] at this
   refine ⟨hF.deep, this.mono fun en w' hen => ?_⟩
   obtain ⟨v', β', rfl, p⟩ := hen
   exact hK _ _ ⟨β', p⟩
 ·cases ho
structure Priv (β : Ren) (w : World) (b : Nat) : Prop where
 lt : b < w.heap.size
 at_ : w.heap[b]? = some (.deferred (some []))
 no : ∀ id x, β id = some x -> x.g ≠ b
def marksOf (bs : List Nat) : List Deferred := bs.map fun b => { target := .collected b, args := #[] }
structure Marks (k0 : Nat) (β : Ren) (w : World) (ds : List Deferred) : Prop where
 ex : ∃ bs : List Nat, ds = marksOf bs /\ bs.Nodup /\ ∀ b ∈ bs, k0 <= b /\ Priv β w b
theorem Marks.nil {k0 : Nat} : Marks k0 β w [] := ⟨[], rfl, List.nodup_nil, fun b hb => by cases hb⟩
theorem Priv.evo {β' : Ren} {w' : World} {h' : AH} {b : Nat} (hp : Priv β w b) (hE : Evo β h w β' h' w') : Priv β' w' b := by
 refine ⟨Nat.lt_of_lt_of_le hp.lt hE.size, ?_, fun id x hx hg => ?_⟩
 ·rcases hE.frame b hp.lt with k | ⟨id, x, k1, k2, _⟩
  ·exact k.trans hp.at_
  ·exact absurd k2 (hp.no id x k1)
 ·cases hb : β id with
  | some y =>
   have := hE.sub _ _ hb
   rw [hx] at this; cases this
   exact hp.no id x hb hg
  | none =>
   rcases hE.blk id x hx hb with k | ⟨id0, x0, k1, k2, _⟩
   ·have := hp.lt; omega
   ·exact hp.no id0 x0 k1 (k2.trans hg)
theorem Marks.evo {k0 : Nat} {β' : Ren} {w' : World} {h' : AH} {ds : List Deferred} (hm : Marks k0 β w ds) (hE : Evo β h w β' h' w') : Marks k0 β' w' ds := by
 obtain ⟨bs, k1, k2, k3⟩ := hm.ex
 exact ⟨bs, k1, k2, fun b hb => ⟨(k3 b hb).1, (k3 b hb).2.evo hE⟩⟩
structure Rst (k0 : Nat) (β : Ren) (st : St) (a : Act) (w : World) : Prop where
 hr : HR β st.h w
 hw : Wf st.h
 he : EnvW β st.e a.tmps
 sz : a.tmps.size = st.sz
 hd : Marks k0 β w a.defers
theorem wantedA_eq {tmps : Array Value} {b : Bool} {ops : Array Oper} {o : Oper} (he : EnvW β e tmps) (hq : wantedA ops e o = some b) : Region.wanted o (yielded ops tmps) = b := by
 unfold wantedA at hq
 unfold Region.wanted
 cases hg : o.guard with
 | none => rw [hg] at hq; cases hq; rfl
 | some gb =>
  obtain ⟨g, want⟩ := gb
  rw [hg] at hq
  simp only at hq ⊢
  unfold yielded
  cases hd : (ops[g]?).bind (·.dst) with
  | none => rw [hd] at hq; cases hq; rfl
  | some t =>
   rw [hd] at hq
   simp only at hq ⊢
   cases ht : e.get t with
   | none => rw [ht] at hq; cases hq
   | some u =>
    rw [ht] at hq
    obtain ⟨u', h1, h2⟩ := he t u ht
    simp only [Option.bind_some]
    rw [h1]
    cases u with
    | bool b' =>
     cases hq
     rw [h2.free0_eq rfl]
     cases b' <;> cases want <;> rfl
    | _ => cases hq; cases h2 <;> rfl
theorem putE_sound {sz : Nat} (he : EnvW β e a.tmps) (hsz : a.tmps.size = sz) {d : Option Nat} {v v' : Value} {e' : Tr Value} (hp : putE e sz d v = some e') (hv : VR β v v') : EnvW β e' (a.put d v').tmps := by
 cases d with
 | none => cases hp; exact he
 | some d =>
  simp only [putE] at hp
  split at hp
  ·cases hp; exact he.set ow hv
  ·cases hp
theorem put_defers {d : Option Nat} {v : Value} : (a.put d v).defers = a.defers := by cases d <;> rfl
theorem put_size {d : Option Nat} {v : Value} : (a.put d v).tmps.size = a.tmps.size := by cases d <;> simp [Act.put]
theorem step1_sound {k0 : Nat} {F : Fence} {n : Nat} {call : Call'} (hF : Open F) (hN : Named P) (hcall : CallSound P call) {ops : Array Oper} {o : Oper} {st st' : St} (hs : step1 P call ops o st = some st') (hR : Rst k0 β st a w) {K : Act -> World -> Prop} {Q : Exit -> Act -> World -> Prop}
  (hK : ∀ a' w' β', Rst k0 β' st' a' w' -> Evo β st.h w β' st'.h w' -> K a' w') :
  if Region.wanted o (yielded ops a.tmps) then o.wpIn F n P a w K Q else (∀ f, o.about P w a.eval = some f -> F.fn f) /\ K (a.put o.dst undef) w := by
 unfold step1 at hs
 split at hs
 ·rename_i hwant
  rw [wantedA_eq hR.he hwant, if_pos rfl]
  cases hd : doOp P call st.e st.h o with
  | none => rw [hd] at hs; cases hs
  | some r =>
   obtain ⟨v, h'⟩ := r
   rw [hd] at hs
   obtain ⟨e', h1, h2⟩ := map_inv' hs
   cases h2
   refine doOp_sound hF hN hcall hR.hr hR.hw hR.he hd fun v' w' hdone => ?_
   obtain ⟨β', k1, k2, k3, k4⟩ := hdone
   exact hK _ _ β' ⟨k2, k3, putE_sound (hR.he.mono k4.sub) hR.sz h1 k1, by rw [put_size]; exact hR.sz, by rw [put_defers]; exact hR.hd.evo k4⟩ k4
 ·rename_i hwant
  rw [wantedA_eq hR.he hwant, if_neg (by simp)]
  obtain ⟨e', h1, h2⟩ := map_inv' hs
  cases h2
  exact ⟨fun f _ => hF.fn f, hK _ _ β ⟨hR.hr, hR.hw, putE_sound hR.he hR.sz h1 (.of_free rfl), by rw [put_size]; exact hR.sz, by rw [put_defers]; exact hR.hd⟩ (.refl _ _ _)⟩
 ·cases hs
theorem runOps_sound {k0 : Nat} {F : Fence} {n : Nat} {call : Call'} (hF : Open F) (hN : Named P) (hcall : CallSound P call) {ops : Array Oper} {Q : Exit -> Act -> World -> Prop} : ∀ (l : List Oper) {β : Ren} {a : Act} {w : World} {st st' : St}, runOps P call ops l st = some st' -> Rst k0 β st a w →
  (∀ a' w' β', Rst k0 β' st' a' w' -> Evo β st.h w β' st'.h w' -> Q .normal a' w') -> wpListIn F n P ops Q l a w
 | [], β, a, w, st, st', hs, hR, hQ => by
  cases hs
  exact hQ a w β hR (.refl _ _ _)
 | o :: rest, β, a, w, st, st', hs, hR, hQ => by
  simp only [runOps] at hs
  cases h1 : step1 P call ops o st with
  | none => rw [h1] at hs; cases hs
  | some s1 =>
   rw [h1] at hs
   have := step1_sound (F := F) (n := n) (K := wpListIn F n P ops Q rest) (Q := Q) hF hN hcall h1 hR fun a' w' β' hR' hE => runOps_sound hF hN hcall rest hs hR' fun a2 w2 β2 hR2 hE2 => hQ a2 w2 β2 hR2 (hE.trans hR.hr hE2)
   simp only [wpListIn]
   split
   ·rename_i hwant
    rw [if_pos hwant] at this
    exact this
   ·rename_i hwant
    rw [if_neg hwant] at this
    exact this
end
end Go.AM
namespace Go.AM
section
variable {P : Program} {e e2 : Tr Value} {h : AH}
theorem evs_congr : ∀ {xs : List Operand}, (∀ x ∈ xs, ev e x = ev e2 x) -> evs e xs = evs e2 xs
 | [], _ => rfl
 | x :: r, hx => by
  simp only [evs, hx x (List.mem_cons_self), evs_congr (xs := r) (fun y hy => hx y (List.mem_cons_of_mem _ hy))]
theorem evP_congr : ∀ {xs : List (Nat × Operand)}, (∀ x ∈ xs, ev e x.2 = ev e2 x.2) -> evP e xs = evP e2 xs
 | [], _ => rfl
 | (k, x) :: r, hx => by
  simp only [evP, hx (k, x) (List.mem_cons_self), evP_congr (xs := r) (fun y hy => hx y (List.mem_cons_of_mem _ hy))]
theorem evO_congr {x : Option Operand} (hx : ∀ y, x = some y -> ev e y = ev e2 y) : evO e x = evO e2 x := by
 cases x with
 | none => rfl
 | some y => simp only [evO, hx y rfl]
theorem aop_congr (op : Op) (hx : ∀ x ∈ op.operands, ev e x = ev e2 x) : aop P e h op = aop P e2 h op := by
 cases op <;> simp only [aop, Op.operands] at hx ⊢
 case move x => rw [hx x (by simp)]
 case assign x => rw [hx x (by simp)]
 case pick c x y =>
  rw [hx c (by simp)]
  cases ev e2 c with
  | none => rfl
  | some v =>
   cases v with
   | bool q => cases q <;> simp [hx x (by simp), hx y (by simp)]
   | _ => rfl
 case box t x => rw [hx x (by simp)]
 case build t parts => rw [evP_congr (xs := parts.toList) (fun q hq => hx q.2 (by simpa using ⟨q.1, Array.mem_toList_iff.1 hq⟩))]
 case buildSlice t n parts => rw [evP_congr (xs := parts.toList) (fun q hq => hx q.2 (by simpa using ⟨q.1, Array.mem_toList_iff.1 hq⟩))]
 case load t x => rw [hx x (by simp)]
 case store t x y => rw [hx x (by simp), hx y (by simp)]
 case nilCheck x => rw [hx x (by simp)]
 case binOp b t x y yt => rw [hx x (by simp), hx y (by simp)]
 case unOp b t x => rw [hx x (by simp)]
 case convert s d x => rw [hx x (by simp)]
 case sliceToArrayPointer t x => rw [hx x (by simp)]
 case makeInterface t x => rw [hx x (by simp)]
 case typeAssert x s t ok => rw [hx x (by simp)]
 case range t x => rw [hx x (by simp)]
 case next x str => cases str <;> simp only [hx x (by simp)]
 case entry x => rw [hx x (by simp)]
 case makeFunc f x y => 
  cases f <;> simp only
  rw [evs_congr (xs := x.toList) (fun q hq => hx q (by simp [Array.mem_toList_iff.1 hq])), evs_congr (xs := y.toList) (fun q hq => hx q (by simp [Array.mem_toList_iff.1 hq]))]
 case makeMap t r => cases r <;> rfl
 case makeSlice t x y => rw [hx x (by simp), hx y (by simp)]
 case slice t x lo hi mx =>
  rw [hx x (by simp), evO_congr (x := lo) (fun y hy => hx y (by simp [hy])), evO_congr (x := hi) (fun y hy => hx y (by simp [hy])), evO_congr (x := mx) (fun y hy => hx y (by simp [hy]))]
 case fieldAddr t x i => rw [hx x (by simp)]
 case field t x i => rw [hx x (by simp)]
 case indexAddr t x y => rw [hx x (by simp), hx y (by simp)]
 case index t x y => rw [hx x (by simp), hx y (by simp)]
 case lookup t x y k => rw [hx x (by simp), hx y (by simp)]
 case mapUpdate t x y z => rw [hx x (by simp), hx y (by simp), hx z (by simp)]
 case insert t x y z => rw [hx x (by simp), hx y (by simp), hx z (by simp)]
 case extract x i => rw [hx x (by simp)]
 all_goals rfl
theorem doOp_congr {call : Call'} {o : Oper} (hx : ∀ x ∈ o.op.operands, ev e x = ev e2 x) : doOp P call e h o = doOp P call e2 h o := by
 unfold doOp
 split
 ·rename_i c hc
  rw [hc] at hx
  simp only [Op.operands, Call.operands] at hx
  unfold doCall
  rw [evs_congr (xs := c.args.toList) (fun q hq => hx q (by simp [Array.mem_toList_iff.1 hq]))]
  cases evs e2 c.args.toList with
  | none => rfl
  | some args =>
   simp only
   split
   ·rfl
   ·rename_i f hf
    rw [hf] at hx
    rw [hx f (by simp)]
   ·rfl
 ·exact aop_congr _ hx
theorem readId_congr {op : Op} (hx : ∀ x ∈ op.operands, ev e x = ev e2 x) : readId e op = readId e2 op := by
 cases op <;> simp only [readId, Op.operands] at hx ⊢
 case load t x => rw [hx x (by simp)]
 case slice t x lo hi mx => rw [hx x (by simp)]
 case convert s d x => rw [hx x (by simp)]
 case lookup t x y k => rw [hx x (by simp)]
 case call c =>
  split
  ·rename_i x hq
   have hm : x ∈ c.args := by
    rw [<-Array.mem_toList_iff, hq]
    simp
   rw [hx x (by simp only [Call.operands]; exact Array.mem_append.2 (.inr hm))]
  ·rfl
end
inductive Cl (n : Nat) : Value -> Prop where
 | free (v : Value) : free0 v = true -> Cl n v
 | ptr {id off : Nat} : id < n -> Cl n (.pointer (some ⟨id, off, none⟩))
 | slice {id off len cap : Nat} : id < n -> Cl n (.slice (some ⟨id, off, none⟩) len cap)
 | empty : Cl n (.slice none 0 1)
 | gptr {g off : Nat} : Cl n (.pointer (some ⟨g, off, some 0⟩))
 | gsl {g off len cap : Nat} : Cl n (.slice (some ⟨g, off, some 0⟩) len cap)
 | map {id : Nat} : id < n -> Cl n (.map (some id))
 | yield {id : Nat} : id < n -> Cl n (.func (.yield id) #[] #[])
 | func {f : FuncId} {a c : Array Value} : (∀ (i : Nat) (v : Value), a[i]? = some v -> Cl n v) -> (∀ (i : Nat) (v : Value), c[i]? = some v -> Cl n v) -> Cl n (.func (.func f) a c)
 | iface {t : TypeId} {v : Value} : Cl n v -> Cl n (.iface t v)
 | agg {a : Array Value} : (∀ (i : Nat) (v : Value), a[i]? = some v -> Cl n v) -> Cl n (.agg a)
 | tuple {a : Array Value} : (∀ (i : Nat) (v : Value), a[i]? = some v -> Cl n v) -> Cl n (.tuple a)
theorem arr_at {a a' : Array Value} (h : a.size = a'.size) {i : Nat} {v : Value} (hi : a[i]? = some v) : ∃ v', a'[i]? = some v' := by
 have : i < a'.size := by
  rw [<-h]
  rcases Nat.lt_or_ge i a.size with q | q
  ·exact q
  ·rw [Array.getElem?_eq_none q] at hi; cases hi
 exact ⟨_, Array.getElem?_eq_getElem this⟩
theorem Cl.of_vr {β : Ren} {n : Nat} (hd : ∀ id x, β id = some x -> id < n) {v v' : Value} (h : VR β v v') : Cl n v := by
 induction h with
 | free v hv => exact .free v hv
 | ptr hb _ => exact .ptr (hd _ _ hb)
 | slice hb _ _ _ => exact .slice (hd _ _ hb)
 | empty => exact .empty
 | gptr => exact .gptr
 | gsl _ => exact .gsl
 | map hb => exact .map (hd _ _ hb)
 | yield hb => exact .yield (hd _ _ hb)
 | func h1 _ h2 _ ih1 ih2 =>
  exact .func (fun i v hi => let ⟨v', hv'⟩ := arr_at h1 hi; ih1 i v v' hi hv') (fun i v hi => let ⟨v', hv'⟩ := arr_at h2 hi; ih2 i v v' hi hv')
 | iface _ ih => exact .iface ih
 | agg h1 _ ih => exact .agg fun i v hi => let ⟨v', hv'⟩ := arr_at h1 hi; ih i v v' hi hv'
 | tuple h1 _ ih => exact .tuple fun i v hi => let ⟨v', hv'⟩ := arr_at h1 hi; ih i v v' hi hv'
def res (β : Ren) (n : Nat) : Ren := fun id => if id < n then β id else none
theorem res_some {β : Ren} {n id : Nat} {x : Bx} (h : res β n id = some x) : id < n /\ β id = some x := by
 unfold res at h
 split at h
 ·exact ⟨‹_›, h⟩
 ·cases h
theorem res_lt {β : Ren} {n id : Nat} (h : id < n) : res β n id = β id := if_pos h
theorem VR.res {β : Ren} {n : Nat} {v v' : Value} (h : VR β v v') (hc : Cl n v) : VR (AM.res β n) v v' := by
 induction h with
 | free v hv => exact .free v hv
 | ptr hb hl =>
  cases hc with
  | free _ hf => simp [free0] at hf
  | ptr hn => exact .ptr (by rw [res_lt hn]; exact hb) hl
 | slice hb hl hcr ha =>
  cases hc with
  | free _ hf => simp [free0] at hf
  | slice hn => exact .slice (by rw [res_lt hn]; exact hb) hl hcr ha
 | empty => exact .empty
 | gptr => exact .gptr
 | gsl hq => exact .gsl hq
 | map hb =>
  cases hc with
  | free _ hf => simp [free0] at hf
  | map hn => exact .map (by rw [res_lt hn]; exact hb)
 | yield hb =>
  cases hc with
  | free _ hf => simp [free0] at hf
  | yield hn => exact .yield (by rw [res_lt hn]; exact hb)
 | func h1 _ h2 _ ih1 ih2 =>
  cases hc with
  | free _ hf => simp [free0] at hf
  | func c1 c2 => exact .func h1 (fun i v v' a b => ih1 i v v' a b (c1 i v a)) h2 (fun i v v' a b => ih2 i v v' a b (c2 i v a))
 | iface _ ih =>
  cases hc with
  | free _ hf => simp [free0] at hf
  | iface c => exact .iface (ih c)
 | agg h1 _ ih =>
  cases hc with
  | free _ hf => simp [free0] at hf
  | agg c => exact .agg h1 fun i v v' a b => ih i v v' a b (c i v a)
 | tuple h1 _ ih =>
  cases hc with
  | free _ hf => simp [free0] at hf
  | tuple c => exact .tuple h1 fun i v v' a b => ih i v v' a b (c i v a)
theorem floats_heap {P : Program} {e : Tr Value} {h h' : AH} {op : Op} {v : Value} (hf : floats op = true) (ha : aop P e h op = some (v, h')) :
  h' = h \/ ∃ ob, h' = { h with t := h.t.set h.next ob, next := h.next + 1 } := by
 cases op <;> simp only [floats, Bool.false_eq_true] at hf <;> simp only [aop] at ha
 case move x => left; obtain ⟨_, _, h2⟩ := map_inv' ha; cases h2; rfl
 case assign x => left; obtain ⟨_, _, h2⟩ := map_inv' ha; cases h2; rfl
 case pick c x y =>
  left
  split at ha
  ·obtain ⟨_, _, h2⟩ := map_inv' ha; cases h2; rfl
  ·cases ha
 case alloc t =>
  right
  split at ha
  ·split at ha
   ·cases ha; exact ⟨_, rfl⟩
   ·cases ha
  ·cases ha
 case box t x => right; obtain ⟨_, _, h2⟩ := map_inv' ha; cases h2; exact ⟨_, rfl⟩
 case build t parts =>
  left
  split at ha
  ·split at ha
   ·obtain ⟨_, _, h2⟩ := map_inv' ha; cases h2; rfl
   ·cases ha
  ·cases ha
 case buildSlice t n parts =>
  right
  split at ha
  ·split at ha
   ·split at ha
    ·split at ha
     ·cases ha; exact ⟨_, rfl⟩
     ·cases ha
    ·cases ha
   ·cases ha
  ·cases ha
 case load t x =>
  left
  split at ha
  ·obtain ⟨_, _, h2⟩ := map_inv' ha; cases h2; rfl
  ·cases ha
 case nilCheck x =>
  left
  split at ha
  ·cases ha; rfl
  ·cases ha
 case binOp b t x y yt =>
  left
  split at ha
  ·obtain ⟨_, _, h2⟩ := map_inv' ha; cases h2; rfl
  ·cases ha
 case unOp b t x =>
  left
  split at ha
  ·split at ha
   ·obtain ⟨_, _, h2⟩ := map_inv' ha; cases h2; rfl
   ·cases ha
  ·cases ha
 case convert s d x =>
  split at ha
  case h_2 => cases ha
  unfold convV at ha
  split at ha
  ·left
   split at ha
   ·split at ha
    ·split at ha
     ·split at ha
      ·cases ha; rfl
      ·cases ha
     ·cases ha
    ·split at ha
     ·cases ha; rfl
     ·cases ha
    ·cases ha
   ·cases ha
  ·split at ha
   ·split at ha
    ·right; cases ha; exact ⟨_, rfl⟩
    ·cases ha
   ·left; obtain ⟨_, _, h2⟩ := map_inv' ha; cases h2; rfl
  ·left
   split at ha
   ·obtain ⟨_, _, h2⟩ := map_inv' ha; cases h2; rfl
   ·cases ha
 case makeFunc f x y =>
  left
  cases f <;> simp only at ha <;> try cases ha
  split at ha
  ·cases ha; rfl
  ·cases ha
 case makeMap t r =>
  right
  cases r with
  | some _ => cases ha
  | none => simp only [Option.some.injEq, Prod.mk.injEq] at ha; exact ⟨_, ha.2.symm⟩
 case makeSlice t x y =>
  right
  split at ha
  ·split at ha
   ·split at ha
    ·split at ha
     ·cases ha; exact ⟨_, rfl⟩
     ·cases ha
    ·cases ha
   ·cases ha
  ·cases ha
 case slice t x lo hi mx =>
  left
  split at ha
  ·split at ha
   ·obtain ⟨_, _, h2⟩ := map_inv' ha; cases h2; rfl
   ·cases ha
  ·obtain ⟨_, _, h2⟩ := map_inv' ha; cases h2; rfl
  ·cases ha
 case fieldAddr t x i =>
  left
  split at ha
  ·obtain ⟨_, _, h2⟩ := map_inv' ha; cases h2; rfl
  ·cases ha
 case field t x i =>
  left
  split at ha
  ·obtain ⟨_, _, h2⟩ := map_inv' ha; cases h2; rfl
  ·cases ha
 case indexAddr t x y =>
  left
  split at ha
  ·obtain ⟨_, _, h2⟩ := map_inv' ha; cases h2; rfl
  ·cases ha
 case index t x y =>
  left
  split at ha
  ·split at ha
   ·obtain ⟨_, _, h2⟩ := map_inv' ha; cases h2; rfl
   ·cases ha
  ·cases ha
 case lookup t x y k =>
  left
  split at ha
  ·obtain ⟨_, _, h2⟩ := map_inv' ha; cases h2; rfl
  ·cases ha
 case extract x i =>
  left
  split at ha
  ·obtain ⟨_, _, h2⟩ := map_inv' ha; cases h2; rfl
  ·cases ha
 case sliceToArrayPointer t x =>
  left
  split at ha
  ·split at ha
   ·cases ha; rfl
   ·cases ha
  ·cases ha
 case makeInterface t x =>
  left
  split at ha
  ·cases ha
  ·cases ha; rfl
  ·cases ha
 case typeAssert x s t ok =>
  left
  split at ha
  ·obtain ⟨_, _, h2⟩ := map_inv' ha; cases h2; rfl
  ·cases ha
 case call c => cases ha
theorem still_ext {P : Program} {e : Tr Value} {h g : AH} {op : Op} {v : Value} (hf : floats op = true) (ha : aop P e h op = some (v, h))
  (hr : ∀ id, readId e op = some id -> g.fam id = h.fam id /\ g.t.get id = h.t.get id) : aop P e g op = some (v, g) := by
 have hkeep : ∀ {o : Option Value}, o.map (·, h) = some (v, h) -> o.map (·, g) = some (v, g) := by
  intro o ho
  cases o with
  | none => cases ho
  | some u => simp at ho; subst ho; rfl
 have hne : ∀ {t : Tr AObj}, (⟨t, h.next + 1, h.wr⟩ : AH) ≠ h := fun hq => by have := congrArg AH.next hq; simp at this
 have hne2 : ∀ {cs : List Value}, (newRow h cs).2 ≠ h := fun hq => hne hq
 cases op <;> simp only [floats, Bool.false_eq_true] at hf <;> simp only [aop] at ha ⊢
 case move x => exact hkeep ha
 case assign x => exact hkeep ha
 case pick c x y =>
  split at ha
  ·exact hkeep ha
  ·cases ha
 case alloc t =>
  split at ha
  ·split at ha
   ·have := congrArg Prod.snd (Option.some.inj ha); exact absurd this hne2
   ·cases ha
  ·cases ha
 case box t x =>
  obtain ⟨_, _, h2⟩ := map_inv' ha
  exact absurd (congrArg Prod.snd h2) hne2
 case build t parts =>
  split at ha
  ·split at ha
   ·rename_i hc; rw [if_pos hc]; exact hkeep ha
   ·cases ha
  ·cases ha
 case buildSlice t n parts =>
  split at ha
  ·split at ha
   ·split at ha
    ·split at ha
     ·have := congrArg Prod.snd (Option.some.inj ha); exact absurd this hne2
     ·cases ha
    ·cases ha
   ·cases ha
  ·cases ha
 case load t x =>
  split at ha
  case h_2 => cases ha
  rename_i p hp
  have : loadV P g t p = loadV P h t p := by
   unfold loadV
   split
   ·rename_i id off
    have h1 : readId e (.load t x) = some id := by simp [readId, hp]
    have h2 := (hr _ h1).1
    have h3 : ∀ k, loadC g id off k = loadC h id off k := fun k => by unfold loadC; rw [h2]
    simp only [h3]
   ·rfl
   ·rfl
  rw [this]
  exact hkeep ha
 case nilCheck x =>
  split at ha
  ·cases ha; rfl
  ·cases ha
 case binOp b t x y yt =>
  split at ha
  ·exact hkeep ha
  ·cases ha
 case unOp b t x =>
  split at ha
  ·split at ha
   ·rename_i hc; rw [if_pos hc]; exact hkeep ha
   ·cases ha
  ·cases ha
 case convert s d x =>
  split at ha
  case h_2 => cases ha
  rename_i u hu
  unfold convV at ha ⊢
  split at ha
  ·rename_i a len cap
   split at ha
   case h_2 => cases ha
   split at ha
   ·rename_i id off he
    have k1 : readId e (.convert s d x) = some id := by simp [readId, hu]
    have k2 := (hr _ k1).1
    have k3 : ∀ k, loadC g id off k = loadC h id off k := fun k => by unfold loadC; rw [k2]
    simp only [k3]
    split at ha
    ·split at ha
     ·cases ha; rfl
     ·cases ha
    ·cases ha
   ·split at ha
    ·rename_i hc; rw [if_pos hc]; cases ha; rfl
    ·cases ha
   ·cases ha
  ·split at ha
   ·split at ha
    ·have := congrArg Prod.snd (Option.some.inj ha); exact absurd this hne2
    ·cases ha
   ·exact hkeep ha
  ·split at ha
   ·rename_i hc; rw [if_pos hc]; exact hkeep ha
   ·cases ha
 case makeFunc f x y =>
  cases f <;> simp only at ha ⊢ <;> try cases ha
  split at ha
  ·cases ha; rfl
  ·cases ha
 case makeMap t r =>
  cases r with
  | some _ => cases ha
  | none => simp only [Option.some.injEq, Prod.mk.injEq] at ha; exact absurd ha.2 hne
 case makeSlice t x y =>
  split at ha
  ·split at ha
   ·split at ha
    ·split at ha
     ·have := congrArg Prod.snd (Option.some.inj ha); exact absurd this hne2
     ·cases ha
    ·cases ha
   ·cases ha
  ·cases ha
 case slice t x lo hi mx =>
  split at ha
  ·split at ha
   ·rename_i hc; rw [if_pos hc]; exact hkeep ha
   ·cases ha
  ·rename_i u l hh m hns h1 h2 h3 h4
   have hG : ∀ {sz len cap : Nat} {y : Value} {ad : Option Addr}, (∀ id off, ad = some ⟨id, off, none⟩ -> ∀ k, loadC g id off k = loadC h id off k) -> sliceG g sz y ad len cap l hh m = sliceG h sz y ad len cap l hh m := by
    intro sz len cap y ad hq
    unfold sliceG
    split
    ·split
     ·rfl
     ·split
      ·rfl
      ·split
       ·split
        ·rfl
        ·rename_i id off _
         simp only [hq id off rfl]
        ·rfl
       ·rfl
    ·rfl
   have hC : ∀ {id off : Nat}, readId e (.slice t x lo hi mx) = some id -> ∀ k, loadC g id off k = loadC h id off k := fun {id off} k1 k => by unfold loadC; rw [(hr _ k1).1]
   have : sliceV P g t u l hh m = sliceV P h t u l hh m := by
    unfold sliceV
    split
    ·split
     ·exact hG fun id off hq => hC (by subst hq; simp [readId, h1])
     ·rfl
    ·split
     ·split
      ·exact hG fun id' off' hq => by cases hq; exact hC (by simp [readId, h1])
      ·rfl
     ·rfl
    ·rfl
    ·rfl
   rw [this]
   exact hkeep ha
  ·cases ha
 case fieldAddr t x i =>
  split at ha
  ·exact hkeep ha
  ·cases ha
 case field t x i =>
  split at ha
  ·exact hkeep ha
  ·cases ha
 case indexAddr t x y =>
  split at ha
  ·exact hkeep ha
  ·cases ha
 case index t x y =>
  split at ha
  ·split at ha
   ·rename_i hc; rw [if_pos hc]; exact hkeep ha
   ·cases ha
  ·cases ha
 case lookup t x y k =>
  split at ha
  case h_2 => cases ha
  rename_i m u hm hu
  have : lookupV P g t m u k = lookupV P h t m u k := by
   have hmo : mapOf g m = mapOf h m := by
    unfold mapOf
    split
    ·rfl
    ·rename_i r
     have k1 : readId e (.lookup t x y k) = some r := by simp [readId, hm]
     rw [(hr _ k1).2]
    ·rfl
   unfold lookupV
   rw [hmo]
  rw [this]
  exact hkeep ha
 case extract x i =>
  split at ha
  ·exact hkeep ha
  ·cases ha
 case sliceToArrayPointer t x =>
  split at ha
  ·split at ha
   ·rename_i hc; rw [if_pos hc]; cases ha; rfl
   ·cases ha
  ·cases ha
 case makeInterface t x =>
  split at ha
  ·cases ha
  ·cases ha; rfl
  ·cases ha
 case typeAssert x s t ok =>
  split at ha
  ·exact hkeep ha
  ·cases ha
 case call c => cases ha
theorem floats_call {c : Call} (hf : floats (.call c) = true) : c.callee = .builtin .len := by
 simp only [floats] at hf
 split at hf
 ·assumption
 ·cases hf
theorem len_call {P : Program} {call : Call'} {e : Tr Value} {h h' : AH} {o : Oper} {c : Call} {v : Value} (ho : o.op = .call c) (hf : floats o.op = true) (ha : doOp P call e h o = some (v, h')) :
  ∃ x y, c.args.toList = [x] /\ ev e x = some y /\ lenV P h c.argTypes o.type y = some v /\ h' = h := by
 have hc := floats_call (by rw [<-ho]; exact hf)
 unfold doOp at ha
 rw [ho] at ha
 simp only [doCall] at ha
 split at ha
 case h_2 => cases ha
 rename_i args hargs
 rw [hc] at ha
 simp only [abuiltin] at ha
 match args, hargs with
 | [], _ => cases ha
 | [y], hargs =>
  obtain ⟨u, h1, h2⟩ := map_inv' ha
  cases h2
  match hl : c.args.toList, hargs with
  | [], hq => cases hq
  | [x], hq =>
   simp only [evs] at hq
   cases hx : ev e x with
   | none => rw [hx] at hq; cases hq
   | some y' => rw [hx] at hq; cases hq; exact ⟨x, y, rfl, hx, h1, rfl⟩
  | x :: x2 :: r, hq =>
   cases h1 : ev e x <;> cases h2 : ev e x2 <;> cases h3 : evs e r <;> simp [evs, h1, h2, h3] at hq
 | _ :: _ :: _, _ => cases ha
theorem floats_heapD {P : Program} {call : Call'} {e : Tr Value} {h h' : AH} {o : Oper} {v : Value} (hf : floats o.op = true) (ha : doOp P call e h o = some (v, h')) :
  h' = h \/ ∃ ob, h' = { h with t := h.t.set h.next ob, next := h.next + 1 } := by
 cases hop : o.op with
 | call c => obtain ⟨_, _, _, _, _, k⟩ := len_call hop hf ha; exact .inl k
 | _ =>
  unfold doOp at ha
  rw [hop] at ha
  rw [hop] at hf
  exact floats_heap hf ha
theorem still_extD {P : Program} {call : Call'} {e : Tr Value} {h g : AH} {o : Oper} {v : Value} (hf : floats o.op = true) (ha : doOp P call e h o = some (v, h))
  (hr : ∀ id, readId e o.op = some id -> g.fam id = h.fam id /\ g.t.get id = h.t.get id) : doOp P call e g o = some (v, g) := by
 cases hop : o.op with
 | call c =>
  obtain ⟨x, y, k1, k2, k3, _⟩ := len_call hop hf ha
  have hc := floats_call (by rw [<-hop]; exact hf)
  unfold doOp
  rw [hop]
  have hargs : evs e c.args.toList = some [y] := by rw [k1]; simp [evs, k2]
  have hl : lenV P g c.argTypes o.type y = lenV P h c.argTypes o.type y := by
   unfold lenV
   split
   ·rename_i t m _
    have hm : mapOf g (.map m) = mapOf h (.map m) := by
     cases m with
     | none => rfl
     | some r =>
      unfold mapOf
      simp only
      rw [(hr r (by rw [hop]; simp [readId, k1, k2])).2]
    rw [hm]
   ·rfl
   ·rfl
   ·rfl
  simp only [doCall, hargs, hc, abuiltin, hl, k3, Option.map_some]
 | _ =>
  unfold doOp at ha ⊢
  rw [hop] at ha ⊢
  rw [hop] at hf hr
  exact still_ext hf ha hr
structure FreshSh (mkv : Nat -> Value) (mko : Nat -> AObj) : Prop where
 v : (mkv = fun n => .pointer (some ⟨n, 0, none⟩)) \/ (∃ l c, mkv = fun n => .slice (some ⟨n, 0, none⟩) l c) \/ (mkv = fun n => .map (some n))
 o : (∃ d, mko = fun n => .row d n BIG false d.length) \/ mko = fun _ => .map [] 0
theorem fresh_aop {P : Program} {e : Tr Value} {h h' : AH} {op : Op} {v : Value} (hf : envOnly op = true) (ha : aop P e h op = some (v, h')) :
  ∃ mkv mko, FreshSh mkv mko /\ v = mkv h.next /\ h' = { h with t := h.t.set h.next (mko h.next), next := h.next + 1 } ∧
   ∀ g : AH, aop P e g op = some (mkv g.next, { g with t := g.t.set g.next (mko g.next), next := g.next + 1 }) := by
 cases op <;> simp only [envOnly, Bool.false_eq_true] at hf <;> simp only [aop] at ha ⊢
 case alloc t =>
  split at ha
  ·split at ha
   ·rename_i z _ hz
    cases ha
    exact ⟨fun n => .pointer (some ⟨n, 0, none⟩), fun n => .row z.cells.toList n BIG false z.cells.toList.length, ⟨.inl rfl, .inl ⟨_, rfl⟩⟩, rfl, rfl, fun g => by rw [if_pos hz]; rfl⟩
   ·cases ha
  ·cases ha
 case box t x =>
  obtain ⟨u, h1, h2⟩ := map_inv' ha
  cases h2
  exact ⟨fun n => .pointer (some ⟨n, 0, none⟩), fun n => .row u.cells.toList n BIG false u.cells.toList.length, ⟨.inl rfl, .inl ⟨_, rfl⟩⟩, rfl, rfl, fun g => by rw [h1]; rfl⟩
 case buildSlice t n parts =>
  split at ha
  ·split at ha
   ·split at ha
    ·rename_i hc
     split at ha
     ·rename_i cs hcs
      cases ha
      exact ⟨fun m => .slice (some ⟨m, 0, none⟩) n n, fun m => .row cs.toList m BIG false cs.toList.length, ⟨.inr (.inl ⟨_, _, rfl⟩), .inl ⟨_, rfl⟩⟩, rfl, rfl, fun g => by rw [if_pos hc]; rfl⟩
     ·cases ha
    ·cases ha
   ·cases ha
  ·cases ha
 case makeMap t r =>
  cases r with
  | some _ => cases hf
  | none =>
   simp only [Option.some.injEq, Prod.mk.injEq] at ha
   exact ⟨fun n => .map (some n), fun _ => .map [] 0, ⟨.inr (.inr rfl), .inr rfl⟩, ha.1.symm, ha.2.symm, fun g => rfl⟩
 case makeSlice t x y =>
  split at ha
  ·rename_i n m el hn hm hu
   split at ha
   ·rename_i i hi
    split at ha
    ·rename_i z hz
     split at ha
     ·rename_i hc
      cases ha
      exact ⟨fun k => .slice (some ⟨k, 0, none⟩) n.toNat (if n = m then n.toNat else n.toNat + i.size), fun k => .row (zerosC z.cells.toList m.toNat) k BIG false (zerosC z.cells.toList m.toNat).length, ⟨.inr (.inl ⟨_, _, rfl⟩), .inl ⟨_, rfl⟩⟩, rfl, rfl, fun g => by rw [if_pos hc]; rfl⟩
     ·cases ha
    ·cases ha
   ·cases ha
  ·cases ha
theorem fresh_op {P : Program} {call : Call'} {e : Tr Value} {h h' : AH} {o : Oper} {v : Value} (hf : envOnly o.op = true) (ha : doOp P call e h o = some (v, h')) :
  ∃ mkv mko, FreshSh mkv mko /\ v = mkv h.next /\ h' = { h with t := h.t.set h.next (mko h.next), next := h.next + 1 } ∧
   ∀ g : AH, doOp P call e g o = some (mkv g.next, { g with t := g.t.set g.next (mko g.next), next := g.next + 1 }) := by
 cases hop : o.op with
 | call c => rw [hop] at hf; cases hf
 | _ =>
  unfold doOp at ha ⊢
  rw [hop] at ha hf
  simp only [hop]
  exact fresh_aop hf ha
end Go.AM
namespace Go.AM
section
variable {P : Program} {β β' : Ren} {h h' : AH} {w w' : World} {e : Tr Value} {a : Act}
theorem HR.wr_any (hr : HR β h w) (n : Nat) : HR β { h with wr := n } w := ⟨hr.dom, hr.row, hr.map, hr.loop, hr.disj, ⟨hr.more.iter, hr.more.glob, hr.more.apart⟩⟩
theorem Wf.wr_any (hw : Wf h) (n : Nat) : Wf { h with wr := n } := ⟨hw.lt, hw.lon, hw.curn, hw.stale, hw.cur, hw.ali⟩
theorem HR.heap (hr : HR β h w) (hq : w'.heap = w.heap) : HR β h w' :=
 ⟨fun id x k => by rw [hq]; exact hr.dom id x k, fun id x f k l => by
  obtain ⟨m1, c, el, fz, m2, m3⟩ := hr.row id x f k l
  exact ⟨m1, c, el, fz, by rw [hq]; exact m2, m3⟩, fun id x es ck k l => by rw [hq]; exact hr.map id x es ck k l, fun id x r k l => by rw [hq]; exact hr.loop id x r k l, hr.disj, ⟨fun id x m s e k a b => by rw [hq]; exact hr.more.iter id x m s e k a b, fun g c a => by rw [hq]; exact hr.more.glob g c a, hr.more.apart⟩⟩
theorem Evo.wr_min {m : Nat} (hE : Evo β { h with wr := m } w β' h' w') : Evo β h w β' { h' with wr := min h.wr h'.wr } w' where
 sub := hE.sub
 new := hE.new
 all := hE.all
 blk := fun id x k1 k2 => by
  rcases hE.blk id x k1 k2 with q | ⟨id0, x0, q1, q2, q3, q4⟩
  ·exact .inl q
  ·exact .inr ⟨id0, x0, q1, q2, Nat.le_trans (Nat.min_le_right _ _) q3, q4⟩
 size := hE.size
 os := hE.os
 tape := hE.tape
 output := hE.output
 frame := fun b hb => by
  rcases hE.frame b hb with q | ⟨id0, x0, q1, q2, q3, q4⟩
  ·exact .inl q
  ·exact .inr ⟨id0, x0, q1, q2, Nat.le_trans (Nat.min_le_right _ _) q3, q4⟩
 next := hE.next
 wr := Nat.min_le_left _ _
 root := hE.root
 ro := hE.ro
 objs := fun id k1 k2 => hE.objs id k1 (Nat.lt_of_lt_of_le k2 (Nat.min_le_right _ _))
def Ran (P : Program) (call : Call') (ops : Array Oper) (o : Oper) (e : Tr Value) (h : AH) (v : Value) (h' : AH) : Prop :=
 (wantedA ops e o = some true /\ doOp P call e h o = some (v, h')) \/ (wantedA ops e o = some false /\ v = undef /\ h' = h)
theorem ran_sound {F : Fence} {n : Nat} {call : Call'} (hF : Open F) (hN : Named P) (hcall : CallSound P call) {ops : Array Oper} {o : Oper} {v : Value} (hr : HR β h w) (hw : Wf h) (he : EnvW β e a.tmps)
  (ho : Ran P call ops o e h v h') {K : Act -> World -> Prop} {Q : Exit -> Act -> World -> Prop}
  (hK : ∀ v' w', Done β h w v h' v' w' -> K (a.put o.dst v') w') :
  if Region.wanted o (yielded ops a.tmps) then o.wpIn F n P a w K Q else (∀ f, o.about P w a.eval = some f -> F.fn f) /\ K (a.put o.dst undef) w := by
 rcases ho with ⟨hw1, hd⟩ | ⟨hw1, rfl, rfl⟩
 ·rw [wantedA_eq he hw1, if_pos rfl]
  exact doOp_sound hF hN hcall hr hw he hd hK
 ·rw [wantedA_eq he hw1, if_neg (by simp)]
  exact ⟨fun f _ => hF.fn f, hK _ _ ⟨β, .of_free rfl, hr, hw, .refl _ _ _⟩⟩
theorem wp_get {n : Nat} {o : Oper} {K : Act -> World -> Prop} (hh : o.wpIn Fence.wide n P a w K (fun _ _ _ => False)) : ∃ a' w', K a' w' := by
 obtain ⟨_, hh⟩ := hh
 generalize (o.semAt Fence.wide.round a.eval).run P w = r at hh
 cases r with
 | ok m w1 =>
  cases m with
  | value v => exact ⟨_, _, hh⟩
  | skip => exact ⟨_, _, hh⟩
  | defer d => exact ⟨_, _, hh⟩
  | enter f args =>
   rw [Oper.uponIn_enter] at hh
   obtain ⟨en, w2, fr, hR, _⟩ := hh.2.2 [] (open_wide.room _)
   cases en with
   | returned v => exact ⟨_, _, hR⟩
   | panicked c => exact hR.elim
   | outgrown => obtain ⟨_, _, q⟩ := hR; exact q.elim
  | row row args =>
   rw [Oper.uponIn_row] at hh
   obtain ⟨v, w2, hR, _⟩ := hh.2 (Frame.enter P 0 #[] .normal) [] (open_wide.room _)
   exact ⟨_, _, hR⟩
  | round l f tmps assign body =>
   rw [Oper.uponIn_round] at hh
   obtain ⟨en, w2, hR, _⟩ := hh.2.2 (Frame.enter P 0 #[] .normal) [] (open_wide.room _)
   cases en with
   | returned v => exact ⟨_, _, hR⟩
   | panicked c => exact hR.elim
   | outgrown => obtain ⟨_, _, q⟩ := hR; exact q.elim
  | _ => exact False.elim hh
 | halt x w1 =>
  cases x <;> exact False.elim hh
theorem ran_get {call : Call'} (hN : Named P) (hcall : CallSound P call) {ops : Array Oper} {o : Oper} {v : Value} (hr : HR β h w) (hw : Wf h) (he : EnvW β e a.tmps)
  (ho : Ran P call ops o e h v h') : ∃ v' w', Done β h w v h' v' w' := by
 have := ran_sound (F := Fence.wide) (n := 0) (Q := fun _ _ _ => False) (K := fun _ _ => ∃ v' w', Done β h w v h' v' w') open_wide hN hcall hr hw he ho fun v' w' hd => ⟨v', w', hd⟩
 split at this
 ·obtain ⟨_, _, q⟩ := wp_get this; exact q
 ·exact this.2
theorem draw1_ran {call : Call'} {ops : Array Oper} {o : Oper} {s s' : St} {x : Inf} (hB : s.h.wr <= BIG) (hd : draw1 P call ops o s = some (s', x)) :
  ∃ v h', Ran P call ops o s.e { s.h with wr := BIG } v h' /\ putE s.e s.sz o.dst v = some s'.e /\ s'.sz = s.sz /\ s'.h = { h' with wr := min s.h.wr h'.wr } /\ x.w = h'.wr ∧
   (x.quiet = true -> s.h.next <= BIG -> s.h.next <= h'.wr) ∧
   (x.still = true -> h' = { s.h with wr := BIG } /\ (wantedA ops s.e o = some true -> floats o.op = true /\ ∀ id, readId s.e o.op = some id -> x.root = some (max id (rootOf s.h id)) /\ max id (rootOf s.h id) < s.h.next /\ x.ids = [id, rootOf s.h id])) ∧
   (∀ y, x.keep y = true -> h'.t.get y = s.h.t.get y) ∧
   (x.still = false -> x.root = none -> ∀ y, x.ids = [y] -> wantedA ops s.e o = some true /\ envOnly o.op = true /\ y = s.h.next) := by
 unfold draw1 at hd
 split at hd
 ·rename_i hwant
  cases hdo : doOp P call s.e { s.h with wr := BIG } o with
  | none => rw [hdo] at hd; cases hd
  | some r =>
   obtain ⟨v, h'⟩ := r
   rw [hdo] at hd
   simp only at hd
   cases hp : putE s.e s.sz o.dst v with
   | none => rw [hp] at hd; cases hd
   | some e' =>
    rw [hp] at hd
    simp only [Option.map_some, Option.some.injEq, Prod.mk.injEq] at hd
    obtain ⟨rfl, rfl⟩ := hd
    refine ⟨v, h', .inl ⟨hwant, hdo⟩, hp, rfl, rfl, rfl, fun q _ => of_decide_eq_true q, fun q => ?_, fun y hy => (sameO_eq hy).symm, fun q1 q2 y q3 => ?_⟩
    rotate_left
    ·cases hrd : readId s.e o.op with
     | some id => rw [hrd] at q2; cases q2
     | none =>
      rw [hrd] at q3
      simp only at q3
      split at q3
      ·rename_i hq; cases q3; exact ⟨hwant, hq, rfl⟩
      ·cases q3
    simp only [Bool.and_eq_true, beq_iff_eq] at q
    obtain ⟨⟨q1, q2⟩, q3⟩ := q
    refine ⟨?_, fun _ => ⟨q1, fun id hid => ?_⟩⟩
    ·rcases floats_heapD q1 hdo with k | ⟨ob, k⟩
     ·exact k
     ·rw [k] at q2
      simp at q2
    ·rw [hid] at q3 ⊢
     exact ⟨rfl, of_decide_eq_true q3, rfl⟩
 ·rename_i hwant
  cases hp : putE s.e s.sz o.dst undef with
  | none => rw [hp] at hd; cases hd
  | some e' =>
   rw [hp] at hd
   simp only [Option.map_some, Option.some.injEq, Prod.mk.injEq] at hd
   obtain ⟨rfl, rfl⟩ := hd
   refine ⟨undef, { s.h with wr := BIG }, .inr ⟨hwant, rfl, rfl⟩, hp, rfl, ?_, rfl, fun _ q => q, fun _ => ⟨rfl, fun q => by rw [hwant] at q; cases q⟩, fun _ _ => rfl, fun q => by cases q⟩
   show s.h = { s.h with wr := min s.h.wr BIG }
   rw [Nat.min_eq_left hB]
 ·cases hd
theorem drawGo_tra {call : Call'} {ops : Array Oper} : ∀ (l : List Oper) {s s' : St} {xs : List Inf}, drawGo P call ops l s = some (s', xs) →
  ∃ (S : Nat -> St) (I : Nat -> Inf), S 0 = s /\ S l.length = s' /\ xs.length = l.length /\ ∀ k, k < l.length -> xs[k]? = some (I k) /\ ∃ o, l[k]? = some o /\ draw1 P call ops o (S k) = some (S (k + 1), I k)
 | [], s, s', xs, hd => by
  simp only [drawGo, Option.some.injEq, Prod.mk.injEq] at hd
  obtain ⟨rfl, rfl⟩ := hd
  exact ⟨fun _ => s, fun _ => Inf.skip, rfl, rfl, rfl, fun k hk => absurd hk (Nat.not_lt_zero k)⟩
 | o :: rest, s, s', xs, hd => by
  simp only [drawGo] at hd
  cases h1 : draw1 P call ops o s with
  | none => rw [h1] at hd; cases hd
  | some r =>
   obtain ⟨s1, x⟩ := r
   rw [h1] at hd
   simp only at hd
   cases h2 : drawGo P call ops rest s1 with
   | none => rw [h2] at hd; cases hd
   | some r2 =>
    obtain ⟨s2, l⟩ := r2
    rw [h2] at hd
    simp only [Option.some.injEq, Prod.mk.injEq] at hd
    obtain ⟨rfl, rfl⟩ := hd
    obtain ⟨S, I, k1, k2, k3, k4⟩ := drawGo_tra rest h2
    refine ⟨fun | 0 => s | k + 1 => S k, fun | 0 => x | k + 1 => I k, rfl, k2, by simp [k3], fun k hk => ?_⟩
    cases k with
    | zero => exact ⟨rfl, o, rfl, by simpa only [k1] using h1⟩
    | succ k =>
     obtain ⟨m1, m2⟩ := k4 k (by simpa using hk)
     exact ⟨by simpa using m1, by simpa using m2⟩
def Kn (β0 : Ren) (n0 id : Nat) : Prop := (β0 id).isSome = true \/ n0 <= id
structure Tra (P : Program) (call : Call') (ops : Array Oper) (S : Nat -> St) (I : Nat -> Inf) (β0 : Ren) : Prop where
 ran : ∀ k, k < ops.size -> ∃ o v h', ops[k]? = some o /\ Ran P call ops o (S k).e { (S k).h with wr := BIG } v h' /\ putE (S k).e (S 0).sz o.dst v = some (S (k + 1)).e ∧
  (S (k + 1)).h = { h' with wr := min (S k).h.wr h'.wr } /\ (I k).w = h'.wr /\ ((I k).quiet = true -> (S k).h.next <= h'.wr) ∧
  ((I k).still = true -> h' = { (S k).h with wr := BIG } /\ (wantedA ops (S k).e o = some true -> floats o.op = true /\ ∀ id, readId (S k).e o.op = some id -> (I k).root = some (max id (rootOf (S k).h id)) /\ max id (rootOf (S k).h id) < (S k).h.next /\ (I k).ids = [id, rootOf (S k).h id])) ∧
  (∀ y, (I k).keep y = true -> h'.t.get y = (S k).h.t.get y) ∧
  ((I k).still = false -> (I k).root = none -> ∀ y, (I k).ids = [y] -> wantedA ops (S k).e o = some true /\ envOnly o.op = true /\ y = (S k).h.next)
 sz : ∀ k, k <= ops.size -> (S k).sz = (S 0).sz
 big : ∀ k, k <= ops.size -> (S k).h.wr <= BIG /\ (S k).h.next <= BIG
 wf : ∀ k, k <= ops.size -> Wf (S k).h
 cl : ∀ k, k <= ops.size -> ∀ t v, (S k).e.get t = some v -> Cl (S k).h.next v
 clr : ∀ k, k <= ops.size -> ∀ id f, id < (S k).h.next -> Kn β0 (S 0).h.next id -> (S k).h.fam id = some f -> ∀ p v, f.lo <= p -> p < f.rb id -> f.data[p]? = some v -> Cl (S k).h.next v
 clm : ∀ k, k <= ops.size -> ∀ id es ck, id < (S k).h.next -> Kn β0 (S 0).h.next id -> (S k).h.t.get id = some (.map es ck) -> ∀ (i : Nat) en, es[i]? = some en -> Cl (S k).h.next en.val
 cll : ∀ k, k <= ops.size -> ∀ id r, id < (S k).h.next -> Kn β0 (S 0).h.next id -> (S k).h.t.get id = some (.loop r) -> ∀ t v, r.e.get t = some v -> Cl (S k).h.next v
 cli : ∀ k, k <= ops.size -> ∀ id m s e l, id < (S k).h.next -> Kn β0 (S 0).h.next id -> (S k).h.t.get id = some (.iter (some m) s e l) -> m < (S k).h.next
 next : ∀ k, k < ops.size -> (S k).h.next <= (S (k + 1)).h.next
 wr : ∀ k, k < ops.size -> (S (k + 1)).h.wr <= (S k).h.wr
 root : ∀ k, k < ops.size -> ∀ id, id < (S k).h.next -> rootOf (S (k + 1)).h id = rootOf (S k).h id
 ro : ∀ k, k < ops.size -> ∀ id, id < (S k).h.next -> roOf (S (k + 1)).h id = roOf (S k).h id
 objs : ∀ k, k < ops.size -> ∀ id, id < (S k).h.next -> id < (I k).w -> (S (k + 1)).h.t.get id = (S k).h.t.get id
theorem sim_step {call : Call'} (hN : Named P) (hcall : CallSound P call) {ops : Array Oper} {o : Oper} {s s' : St} {x : Inf} (hB : s.h.wr <= BIG) (hd : draw1 P call ops o s = some (s', x)) {k0 : Nat} (hR : Rst k0 β s a w) :
  s'.sz = s.sz /\ ∃ β' a' w', Rst k0 β' s' a' w' /\ Evo β s.h w β' s'.h w' /\ (∀ id, id < s.h.next -> id < x.w -> s'.h.t.get id = s.h.t.get id) := by
 obtain ⟨v, h', k1, k2, ks, k3, k4, _, _, _, _⟩ := draw1_ran hB hd
 obtain ⟨v', w', β', m1, m2, m3, m4⟩ := ran_get hN hcall (hR.hr.wr_any BIG) (hR.hw.wr_any BIG) hR.he k1
 refine ⟨ks, β', a.put o.dst v', w', ⟨?_, ?_, putE_sound (hR.he.mono m4.sub) hR.sz k2 m1, by rw [put_size, ks]; exact hR.sz, ?_⟩, ?_, fun id q1 q2 => ?_⟩
 ·rw [k3]; exact m2.wr_any _
 ·rw [k3]; exact m3.wr_any _
 ·rw [put_defers]; exact hR.hd.evo m4
 ·rw [k3]; exact m4.wr_min
 ·rw [k3]
  exact m4.objs id q1 (by rw [<-k4]; exact q2)
theorem sim {call : Call'} (hN : Named P) (hcall : CallSound P call) {ops : Array Oper} {S : Nat -> St} {I : Nat -> Inf} (hB : (S 0).h.wr <= BIG) (n : Nat)
  (hs : ∀ k, k < n -> ∃ o, ops[k]? = some o /\ draw1 P call ops o (S k) = some (S (k + 1), I k)) {k0 : Nat} (hR : Rst k0 β (S 0) a w) :
  ∀ k, k <= n -> (S k).h.wr <= BIG /\ (S k).sz = (S 0).sz /\ ∃ β' a' w', Rst k0 β' (S k) a' w' /\ Evo β (S 0).h w β' (S k).h w'
 | 0, _ => ⟨hB, rfl, β, a, w, hR, .refl _ _ _⟩
 | k + 1, hk => by
  obtain ⟨hB', hz', β', a', w', hR', hE'⟩ := sim hN hcall hB n hs hR k ow
  obtain ⟨o, _, hd⟩ := hs k ow
  obtain ⟨hz, β2, a2, w2, k1, k2, _⟩ := sim_step hN hcall hB' hd hR'
  exact ⟨Nat.le_trans k2.wr hB', hz.trans hz', β2, a2, w2, k1, hE'.trans hR.hr k2⟩
theorem Evo.knows {β0 : Ren} {h0 : AH} {w0 : World} (hE : Evo β0 h0 w0 β h w) {id : Nat} (hid : id < h.next) (hk : Kn β0 h0.next id) : ∃ x, β id = some x := by
 rcases hk with k | k
 ·cases h1 : β0 id with
  | none => rw [h1] at k; cases k
  | some x => exact ⟨x, hE.sub _ _ h1⟩
 ·have := hE.all id k hid
  cases h1 : β id with
  | none => rw [h1] at this; cases this
  | some x => exact ⟨x, rfl⟩
theorem tra_of {call : Call'} (hN : Named P) (hcall : CallSound P call) {ops : Array Oper} {S : Nat -> St} {I : Nat -> Inf} (hB : (S 0).h.wr <= BIG) (hn : (S ops.size).h.next <= BIG)
  (hs : ∀ k, k < ops.size -> ∃ o, ops[k]? = some o /\ draw1 P call ops o (S k) = some (S (k + 1), I k)) {k0 : Nat} (hR : Rst k0 β (S 0) a w) : Tra P call ops S I β := by
 have hsim := sim hN hcall hB ops.size hs hR
 have hstep : ∀ k, k < ops.size -> ∃ β1 w1 β2 w2, Evo β1 (S k).h w1 β2 (S (k + 1)).h w2 /\ (∀ id, id < (S k).h.next -> id < (I k).w -> (S (k + 1)).h.t.get id = (S k).h.t.get id) := fun k hk => by
  obtain ⟨hB', _, β', a', w', hR', _⟩ := hsim k ow
  obtain ⟨o, _, hd⟩ := hs k hk
  obtain ⟨_, β2, a2, w2, k1, k2, k3⟩ := sim_step hN hcall hB' hd hR'
  exact ⟨_, _, _, _, k2, k3⟩
 have hnext : ∀ k, k < ops.size -> (S k).h.next <= (S (k + 1)).h.next := fun k hk => let ⟨_, _, _, _, hE, _⟩ := hstep k hk; hE.next
 have hup : ∀ d k, k + d = ops.size -> (S k).h.next <= BIG := by
  intro d
  induction d with
  | zero => intro k hk; have : k = ops.size := hk; rw [this]; exact hn
  | succ d ih => intro k hk; exact Nat.le_trans (hnext k ow) (ih (k + 1) ow)
 refine ⟨fun k hk => ?_, fun k hk => (hsim k hk).2.1, fun k hk => ⟨(hsim k hk).1, hup (ops.size - k) k ow⟩, fun k hk => ?_, fun k hk t v hv => ?_, fun k hk id f hid hkn hf p v q1 q2 q3 => ?_, fun k hk id es ck hid hkn hg i en hi => ?_, fun k hk id r hid hkn hg t v hv => ?_, fun k hk id m s e l hid hkn hg => ?_, hnext, ?_, ?_, ?_, ?_⟩
 ·obtain ⟨o, ho, hd⟩ := hs k hk
  obtain ⟨v, h', k1, k2, _, k3, k4, k5, k6⟩ := draw1_ran (hsim k ow).1 hd
  exact ⟨o, v, h', ho, k1, by rw [<-(hsim k ow).2.1]; exact k2, k3, k4, fun q => k5 q (hup (ops.size - k) k ow), k6⟩
 ·obtain ⟨_, _, _, _, _, hR', _⟩ := hsim k hk; exact hR'.hw
 ·obtain ⟨_, _, β', a', w', hR', _⟩ := hsim k hk
  obtain ⟨v', _, hv'⟩ := hR'.he t v hv
  exact Cl.of_vr (fun id x hx => (hR'.hr.dom id x hx).1) hv'
 ·obtain ⟨_, _, β', a', w', hR', hE'⟩ := hsim k hk
  obtain ⟨x, hx⟩ := hE'.knows hid hkn
  obtain ⟨_, c, el, fz, _, _, m3, _⟩ := hR'.hr.row _ _ _ hx hf
  obtain ⟨v', _, hv'⟩ := m3 p v q1 q2 q3
  exact Cl.of_vr (fun id x hx => (hR'.hr.dom id x hx).1) hv'
 ·obtain ⟨_, _, β', a', w', hR', hE'⟩ := hsim k hk
  obtain ⟨x, hx⟩ := hE'.knows hid hkn
  obtain ⟨es', _, m1, m2⟩ := hR'.hr.map _ _ _ _ hx hg
  have hlt : i < es.length := by
   rcases Nat.lt_or_ge i es.length with q | q
   ·exact q
   ·rw [List.getElem?_eq_none q] at hi; cases hi
  exact Cl.of_vr (fun id x hx => (hR'.hr.dom id x hx).1) (m2 i en _ hi (List.getElem?_eq_getElem ow)).val
 ·obtain ⟨_, _, β', a', w', hR', hE'⟩ := hsim k hk
  obtain ⟨x, hx⟩ := hE'.knows hid hkn
  obtain ⟨r', _, m1⟩ := hR'.hr.loop _ _ _ hx hg
  obtain ⟨v', _, hv'⟩ := m1.env t v hv
  exact Cl.of_vr (fun id x hx => (hR'.hr.dom id x hx).1) hv'
 ·obtain ⟨_, _, β', a', w', hR', hE'⟩ := hsim k hk
  obtain ⟨x, hx⟩ := hE'.knows hid hkn
  obtain ⟨_, m', _, m2⟩ := hR'.hr.more.iter _ _ _ _ _ _ hx hg
  cases m' with
  | none => exact m2.elim
  | some g => obtain ⟨y, h1, _⟩ := m2; exact (hR'.hr.dom _ _ h1).1
 ·intro k hk; obtain ⟨_, _, _, _, hE, _⟩ := hstep k hk; exact hE.wr
 ·intro k hk; obtain ⟨_, _, _, _, hE, _⟩ := hstep k hk; exact hE.root
 ·intro k hk; obtain ⟨_, _, _, _, hE, _⟩ := hstep k hk; exact hE.ro
 ·intro k hk; obtain ⟨_, _, _, _, hE, ho⟩ := hstep k hk; exact ho
end
end Go.AM
namespace Go.AM
inductive Pr (ops : Array Oper) : Nat -> Nat -> Prop where
 | edge {j : Nat} {o : Oper} {e : Edge} : ops[j]? = some o -> e ∈ o.after -> Region.binds .any e = true -> Pr ops e.on j
 | trans {i j k : Nat} : Pr ops i k -> Pr ops k j -> Pr ops i j
theorem inner_pr {acc : Array Nat} {i : Nat} : ∀ (l : List Edge) (s : Nat), (l.foldl (fun s e => if Region.binds .any e then s ||| 2 ^ e.on ||| acc.getD e.on 0 else s) s).testBit i = true →
  s.testBit i = true \/ ∃ e ∈ l, Region.binds .any e = true /\ (e.on = i \/ (acc.getD e.on 0).testBit i = true)
 | [], s, h => .inl h
 | e :: l, s, h => by
  rw [List.foldl_cons] at h
  rcases inner_pr l _ h with k | ⟨e', k1, k2⟩
  ·split at k
   ·rename_i hb
    rw [Nat.testBit_or, Nat.testBit_or, Nat.testBit_two_pow] at k
    simp only [Bool.or_eq_true, decide_eq_true_eq] at k
    rcases k with (k | k) | k
    ·exact .inl k
    ·exact .inr ⟨e, List.mem_cons_self, hb, .inl k⟩
    ·exact .inr ⟨e, List.mem_cons_self, hb, .inr k⟩
   ·exact .inl k
  ·exact .inr ⟨e', List.mem_cons_of_mem _ k1, k2⟩
theorem outer_pr {ops : Array Oper} : ∀ (l : List Oper) (acc : Array Nat), (∀ i j, (acc.getD j 0).testBit i = true -> Pr ops i j) -> (∀ k o, l[k]? = some o -> ops[acc.size + k]? = some o) →
  ∀ i j, ((l.foldl (fun acc o => acc.push (o.after.foldl (fun s e => if Region.binds .any e then s ||| 2 ^ e.on ||| acc.getD e.on 0 else s) 0)) acc).getD j 0).testBit i = true -> Pr ops i j
 | [], acc, h1, _, i, j, h => h1 i j h
 | o :: l, acc, h1, h2, i, j, h => by
  rw [List.foldl_cons] at h
  refine outer_pr l _ (fun i j hj => ?_) (fun k o' hk => ?_) i j h
  ·rw [Array.getD_eq_getD_getElem?, Array.getElem?_push] at hj
   split at hj
   ·rename_i hq
    subst hq
    simp only [Option.getD_some] at hj
    rw [<-Array.foldl_toList] at hj
    have h0 : ops[acc.size]? = some o := by simpa using h2 0 o rfl
    rcases inner_pr _ _ hj with k | ⟨e, k1, k2, k3⟩
    ·simp at k
    ·rcases k3 with k3 | k3
     ·subst k3; exact .edge h0 (Array.mem_toList_iff.1 k1) k2
     ·exact .trans (h1 _ _ k3) (.edge h0 (Array.mem_toList_iff.1 k1) k2)
   ·exact h1 i j (by rw [Array.getD_eq_getD_getElem?]; exact hj)
  ·have := h2 (k + 1) o' (by simpa using hk)
   simpa [Array.size_push, Nat.add_assoc, Nat.add_comm 1 k] using this
theorem before_pr {ops : Array Oper} {i j : Nat} (h : ((Region.before ops).getD j 0).testBit i = true) : Pr ops i j := by
 unfold Region.before at h
 rw [<-Array.foldl_toList] at h
 exact outer_pr ops.toList #[] (fun i j hj => by simp at hj) (fun k o hk => by simpa using hk) i j h
theorem ordered_pr {ops : Array Oper} {i j : Nat} (h : ordered (Region.before ops) i j = true) : (i < j -> Pr ops i j) /\ (j < i -> Pr ops j i) := by
 unfold ordered at h
 refine ⟨fun k => ?_, fun k => ?_⟩
 ·rw [Nat.max_eq_right ow, Nat.min_eq_left ow] at h; exact before_pr h
 ·rw [Nat.max_eq_left ow, Nat.min_eq_right ow] at h; exact before_pr h
theorem drawOk_spec {ops : Array Oper} (h : drawOk ops = true) {j : Nat} {oj : Oper} (hj : ops[j]? = some oj) :
  (∀ e ∈ oj.after, Region.binds .any e = true -> e.on < j) ∧
  ∀ i oi, ops[i]? = some oi -> i ≠ j -> ((i < j -> Pr ops i j) /\ (j < i -> Pr ops j i)) \/ ∀ d, oi.dst = some d -> d ∉ oj.looksAt ops /\ oj.dst ≠ some d := by
 have hlt : ∀ {i o}, ops[i]? = some o -> i < ops.size := fun hi => (Array.getElem?_eq_some_iff.1 hi).1
 simp only [drawOk, List.all_eq_true, List.mem_range] at h
 have h1 := h j (hlt hj)
 rw [hj] at h1
 simp only [Bool.and_eq_true] at h1
 obtain ⟨⟨h2, _⟩, h3⟩ := h1
 refine ⟨fun e he hb => ?_, fun i oi hi hne => ?_⟩
 ·have := Array.all_eq_true_iff_forall_mem.1 h2 e he
  simpa [hb] using this
 ·have := List.all_eq_true.1 h3 i (List.mem_range.2 (hlt hi))
  rw [hi] at this
  simp only [Bool.or_eq_true, beq_iff_eq, hne, false_or] at this
  rcases this with k | k
  ·exact .inl (ordered_pr k)
  ·right
   intro d hd
   rw [hd] at k
   simpa using k
def restr (e : Tr Value) : List Nat -> Tr Value
 | [] => .leaf
 | t :: r => match e.get t with | some v => (restr e r).set t v | none => restr e r
theorem get_restr (e : Tr Value) : ∀ (l : List Nat) (t : Nat), (restr e l).get t = if t ∈ l then e.get t else none
 | [], t => rfl
 | u :: r, t => by
  simp only [restr]
  cases hu : e.get u with
  | some v =>
   simp only [Tr.get_set, get_restr e r t, List.mem_cons]
   by_cases hq : t = u
   ·subst hq; simp [hu]
   ·simp [hq]
  | none =>
   simp only [get_restr e r t, List.mem_cons]
   by_cases hq : t = u
   ·subst hq; simp [hu]
   ·simp [hq]
section
variable {P : Program} {β β' : Ren} {h h' : AH} {w w' : World} {e : Tr Value} {a : Act}
def RelO (β : Ren) : Option Value -> Option Value -> Prop
 | some v, some v' => VR β v v'
 | none, _ => True
 | _, _ => False
theorem RelO.mono (hs : Sub β β') {o o' : Option Value} (hr : RelO β o o') : RelO β' o o' := by
 cases o <;> cases o' <;> first | exact hr | exact VR.mono hs hr
theorem RelO.some {v : Value} {o' : Option Value} (hr : RelO β (some v) o') : ∃ v', o' = some v' /\ VR β v v' := by
 cases o' with
 | none => exact hr.elim
 | some v' => exact ⟨v', rfl, hr⟩
theorem envW_iff {tmps : Array Value} : EnvW β e tmps ↔ ∀ t, RelO β (e.get t) tmps[t]? := by
 constructor
 ·intro h t
  cases h1 : e.get t with
  | none => trivial
  | some v =>
   obtain ⟨v', h2, h3⟩ := h t v h1
   rw [h2]; exact h3
 ·intro h t v hv
  have := h t
  rw [hv] at this
  exact this.some
theorem mem_looks_op {ops : Array Oper} {o : Oper} {t : Nat} (h : Operand.tmp t ∈ o.op.operands) : t ∈ o.looksAt ops :=
 List.mem_append_left _ (List.mem_filterMap.2 ⟨.tmp t, by simpa using h, rfl⟩)
theorem mem_looks_guard {ops : Array Oper} {o : Oper} {g : Nat} {b : Bool} {t : Nat} (hg : o.guard = some (g, b)) (h : (ops[g]?).bind (·.dst) = some t) : t ∈ o.looksAt ops := by
 refine List.mem_append_right _ ?_
 simp [hg, h]
theorem ran_congr {call : Call'} {ops : Array Oper} {o : Oper} {e2 : Tr Value} {v : Value} (hr : Ran P call ops o e h v h') (hx : ∀ t ∈ o.looksAt ops, e2.get t = e.get t) : Ran P call ops o e2 h v h' := by
 have hw : wantedA ops e2 o = wantedA ops e o := by
  unfold wantedA
  cases hg : o.guard with
  | none => rfl
  | some gb =>
   obtain ⟨g, b⟩ := gb
   simp only
   cases hd : (ops[g]?).bind (·.dst) with
   | none => rfl
   | some t => simp only [hx t (mem_looks_guard hg hd)]
 have hd : doOp P call e2 h o = doOp P call e h o := doOp_congr fun x hx' => by
  cases x with
  | tmp t => exact hx t (mem_looks_op hx')
  | _ => rfl
 unfold Ran
 rw [hw, hd]
 exact hr
theorem ran_still {call : Call'} {ops : Array Oper} {o : Oper} {g : AH} {v : Value} (hr : Ran P call ops o e h v h)
  (hf : wantedA ops e o = some true -> floats o.op = true /\ ∀ id, readId e o.op = some id -> g.fam id = h.fam id /\ g.t.get id = h.t.get id) : Ran P call ops o e g v g := by
 rcases hr with ⟨h1, h2⟩ | ⟨h1, h2, _⟩
 ·obtain ⟨f1, f2⟩ := hf h1
  refine .inl ⟨h1, ?_⟩
  exact still_extD f1 h2 f2
 ·exact .inr ⟨h1, h2, rfl⟩
theorem root_lt (hw : Wf h) {id : Nat} (hid : id < h.next) : rootOf h id < h.next := by
 unfold rootOf
 cases hf : h.fam id with
 | none => exact hid
 | some f => obtain ⟨n0, hr⟩ := fam_root hf; exact hw.lt _ _ hr
theorem fam_keep (hw : Wf h) {id : Nat} (h1 : h'.t.get id = h.t.get id) (h2 : h'.t.get (rootOf h id) = h.t.get (rootOf h id)) : h'.fam id = h.fam id := by
 cases hg : h.t.get id with
 | none => unfold AH.fam; rw [h1, hg]
 | some o =>
  cases o with
  | row => unfold AH.fam; rw [h1, hg]
  | map => unfold AH.fam; rw [h1, hg]
  | loop => unfold AH.fam; rw [h1, hg]
  | iter => unfold AH.fam; rw [h1, hg]
  | alias r lo n =>
   obtain ⟨d, c, l, ro, n0, hr, _⟩ := hw.ali _ _ _ _ hg
   have hf : h.fam id = some ⟨r, lo, n, d, c, l, ro⟩ := by unfold AH.fam; rw [hg]; simp only [hr]
   rw [rootOf_eq hf] at h2
   simp only at h2
   rw [hf]
   unfold AH.fam
   rw [h1, hg]
   simp only [h2, hr]
section trace
variable {call : Call'} {ops : Array Oper} {S : Nat -> St} {I : Nat -> Inf} {β0 : Ren} (T : Tra P call ops S I β0)
include T
theorem Tra.mono {m : Nat} : ∀ d, m + d <= ops.size -> (S m).h.next <= (S (m + d)).h.next
 | 0, _ => Nat.le_refl _
 | d + 1, h => Nat.le_trans (Tra.mono d ow) (T.next (m + d) ow)
theorem Tra.mono' {m m' : Nat} (hm : m <= m') (h : m' <= ops.size) : (S m).h.next <= (S m').h.next := by
 have := T.mono (m := m) (m' - m) ow
 rwa [show m + (m' - m) = m' by omega] at this
theorem Tra.keep {m : Nat} {id : Nat} (hid : id < (S m).h.next) : ∀ d, m + d <= ops.size -> (∀ i, m <= i -> i < m + d -> (I i).quiet = true \/ max id (rootOf (S m).h id) < (I i).w \/ ((I i).keep id = true /\ (I i).keep (rootOf (S m).h id) = true)) →
  (S (m + d)).h.t.get id = (S m).h.t.get id /\ (S (m + d)).h.fam id = (S m).h.fam id
 | 0, _, _ => ⟨rfl, rfl⟩
 | d + 1, h, hq => by
  obtain ⟨k1, k2⟩ := Tra.keep hid d ow fun i a b => hq i a ow
  have hr : rootOf (S (m + d)).h id = rootOf (S m).h id := by unfold rootOf; rw [k2]
  have hw := T.wf (m + d) ow
  have hlt : id < (S (m + d)).h.next := Nat.lt_of_lt_of_le hid (T.mono d ow)
  have hrl := root_lt hw hlt
  have hb : (S (m + d + 1)).h.t.get id = (S (m + d)).h.t.get id /\ (S (m + d + 1)).h.t.get (rootOf (S (m + d)).h id) = (S (m + d)).h.t.get (rootOf (S (m + d)).h id) := by
   rcases hq (m + d) ow ow with q | q | ⟨q1, q2⟩
   ·obtain ⟨o, v, h', _, _, _, _, t5, t6, _⟩ := T.ran (m + d) ow
    have := t6 q
    exact ⟨T.objs (m + d) ow id hlt ow, T.objs (m + d) ow (rootOf (S (m + d)).h id) hrl ow⟩
   ·rw [<-hr] at q
    exact ⟨T.objs (m + d) ow id hlt ow, T.objs (m + d) ow (rootOf (S (m + d)).h id) hrl ow⟩
   ·obtain ⟨o, v, h', _, _, _, t4, _, _, _, t8, _⟩ := T.ran (m + d) ow
    rw [<-hr] at q2
    have e : ∀ y, (S (m + d + 1)).h.t.get y = h'.t.get y := fun y => by rw [t4]
    exact ⟨(e _).trans (t8 _ q1), (e _).trans (t8 _ q2)⟩
  obtain ⟨e1, e2⟩ := hb
  exact ⟨e1.trans k1, (fam_keep hw e1 e2).trans k2⟩
theorem Tra.keep' {m m' : Nat} {id : Nat} (hm : m <= m') (hs : m' <= ops.size) (hid : id < (S m).h.next) (hq : ∀ i, m <= i -> i < m' -> (I i).quiet = true \/ max id (rootOf (S m).h id) < (I i).w \/ ((I i).keep id = true /\ (I i).keep (rootOf (S m).h id) = true)) :
  (S m').h.t.get id = (S m).h.t.get id /\ (S m').h.fam id = (S m).h.fam id := by
 have := T.keep hid (m' - m) ow fun i a b => hq i a ow
 rwa [show m + (m' - m) = m' by omega] at this
theorem Tra.roots {m : Nat} {id : Nat} (hid : id < (S m).h.next) : ∀ d, m + d <= ops.size -> rootOf (S (m + d)).h id = rootOf (S m).h id /\ roOf (S (m + d)).h id = roOf (S m).h id
 | 0, _ => ⟨rfl, rfl⟩
 | d + 1, h => by
  obtain ⟨k1, k2⟩ := Tra.roots hid d ow
  have hlt : id < (S (m + d)).h.next := Nat.lt_of_lt_of_le hid (T.mono d ow)
  exact ⟨(T.root (m + d) ow id hlt).trans k1, (T.ro (m + d) ow id hlt).trans k2⟩
theorem Tra.wrs : ∀ d, d <= ops.size -> (S d).h.wr <= (S 0).h.wr
 | 0, _ => Nat.le_refl _
 | d + 1, h => Nat.le_trans (T.wr d ow) (Tra.wrs d ow)
theorem Tra.slot {m t : Nat} : ∀ d, m + d <= ops.size -> (∀ i o, m <= i -> i < m + d -> ops[i]? = some o -> o.dst ≠ some t) -> (S (m + d)).e.get t = (S m).e.get t
 | 0, _, _ => rfl
 | d + 1, h, hq => by
  have ih := Tra.slot d ow fun i o a b => hq i o a ow
  obtain ⟨o, v, h', ho, _, hp, _⟩ := T.ran (m + d) ow
  have hne := hq (m + d) o ow ow ho
  have : (S (m + (d + 1))).e.get t = (S (m + d)).e.get t := by
   cases hd : o.dst with
   | none =>
    rw [hd] at hp
    have hp : (S (m + d)).e = (S (m + d + 1)).e := Option.some.inj hp
    show (S (m + d + 1)).e.get t = _
    rw [<-hp]
   | some u =>
    rw [hd] at hp hne
    simp only [putE] at hp
    split at hp
    ·have hp := Option.some.inj hp
     show (S (m + d + 1)).e.get t = _
     rw [<-hp]
     exact Tr.get_set_ne _ _ (fun q => hne (by rw [q]))
    ·cases hp
  exact this.trans ih
theorem Tra.slot' {m m' t : Nat} (hm : m <= m') (h : m' <= ops.size) (hq : ∀ i o, m <= i -> i < m' -> ops[i]? = some o -> o.dst ≠ some t) : (S m').e.get t = (S m).e.get t := by
 have := T.slot (m := m) (t := t) (m' - m) ow fun i o a b => hq i o a ow
 rwa [show m + (m' - m) = m' by omega] at this
theorem Tra.heap {i : Nat} (hi : i < ops.size) (hs : (I i).still = true) : (S (i + 1)).h = (S i).h := by
 obtain ⟨o, v, h', _, _, _, t4, _, _, t7, _⟩ := T.ran i hi
 rw [t4, (t7 hs).1]
 simp only [Nat.min_eq_left (T.big i ow).1]
theorem Tra.heaps {m : Nat} : ∀ d, m + d <= ops.size -> (∀ i, m <= i -> i < m + d -> (I i).still = true) -> (S (m + d)).h = (S m).h
 | 0, _, _ => rfl
 | d + 1, h, hq => (T.heap ow (hq (m + d) ow ow)).trans (Tra.heaps d ow fun i a b => hq i a ow)
omit T in
theorem tra_range {id : Nat} (h0 : (S 0).h.next <= id) : ∀ m, m <= ops.size -> id < (S m).h.next -> ∃ i, i < m /\ (S i).h.next <= id /\ id < (S (i + 1)).h.next
 | 0, _, h => absurd h ow
 | m + 1, hm, h => by
  by_cases h1 : id < (S m).h.next
  ·obtain ⟨i, k1, k2⟩ := tra_range h0 m ow h1
   exact ⟨i, by omega, k2⟩
  ·exact ⟨m, by omega, by omega, h⟩
end trace
end
theorem stable_still {W : Nat} {x : Inf} (h : stable W x = true) : x.still = true := by
 unfold stable at h
 simp only [Bool.and_eq_true] at h
 exact h.1
structure Plan (P : Program) (call : Call') (ops : Array Oper) (S : Nat -> St) (I : Nat -> Inf) (β0 : Ren) (sb fr : Nat -> Bool) (k0 : Nat) : Prop where
 T : Tra P call ops S I β0
 ok : drawOk ops = true
 k0n : k0 <= ops.size
 early : ∀ i, i < k0 -> (I i).quiet = true
 tail : ∀ j, j < ops.size -> k0 <= j -> sb j = false -> ∀ i, i < j -> sb i = false -> Pr ops i j \/ (i < k0 /\ fr i = true)
 frs : ∀ i, i < k0 -> fr i = true -> sb i = false -> ∃ o, ops[i]? = some o /\ wantedA ops (S i).e o = some true /\ envOnly o.op = true /\ ∀ k, k0 <= k -> k < ops.size -> (I k).quiet = true \/ (S i).h.next < (I k).w \/ (I k).keep (S i).h.next = true
 stl : ∀ i, i < ops.size -> sb i = true -> (I i).still = true
 low : ∀ j, j < ops.size -> sb j = true -> ∀ r, (I j).root = some r -> ∀ i, i < ops.size -> (I i).quiet = true \/ r < (I i).w \/ (i ≠ j /\ (i < j -> Pr ops i j) /\ (j < i -> Pr ops j i) /\ (sb i = true -> (I i).quiet = true)) \/ ∀ x ∈ (I j).ids, (I i).keep x = true
theorem least_le : ∀ {xs : List Inf} {i : Nat} {x : Inf}, xs[i]? = some x -> x.quiet = true \/ least xs <= x.w
 | [], i, x, h => by cases h
 | y :: l, 0, x, h => by
  simp only [List.getElem?_cons_zero, Option.some.injEq] at h
  subst h
  simp only [least]
  cases hq : y.quiet
  ·right; simp only [Bool.false_eq_true, if_false]; exact Nat.min_le_left _ _
  ·exact .inl rfl
 | y :: l, i + 1, x, h => by
  rcases least_le (xs := l) (i := i) (by simpa using h) with k | k
  ·exact .inl k
  ·right
   simp only [least]
   split
   ·exact k
   ·exact Nat.le_trans (Nat.min_le_right _ _) k
theorem firstW_le : ∀ {xs : List Inf}, firstW xs <= xs.length
 | [] => Nat.le_refl _
 | x :: r => by
  have := firstW_le (xs := r)
  unfold firstW at this ⊢
  rw [List.takeWhile_cons]
  split
  ·simp only [List.length_cons]; omega
  ·simp
theorem firstW_lt : ∀ {xs : List Inf} {i : Nat}, i < firstW xs -> ∃ x, xs[i]? = some x /\ x.quiet = true
 | [], i, h => by simp [firstW] at h
 | x :: r, i, h => by
  unfold firstW at h
  rw [List.takeWhile_cons] at h
  split at h
  ·rename_i hq
   cases i with
   | zero => exact ⟨x, rfl, hq⟩
   | succ i => exact firstW_lt (xs := r) (i := i) (by unfold firstW; simpa using h)
  ·simp at h
theorem firstW_at : ∀ {xs : List Inf}, firstW xs < xs.length -> ∃ x, xs[firstW xs]? = some x /\ x.quiet = false
 | [], h => by simp at h
 | x :: r, h => by
  by_cases hq : x.quiet = true
  ·have e : firstW (x :: r) = firstW r + 1 := by unfold firstW; rw [List.takeWhile_cons, if_pos hq]; rfl
   rw [e] at h ⊢
   exact firstW_at (xs := r) (by simpa using h)
  ·have e : firstW (x :: r) = 0 := by unfold firstW; rw [List.takeWhile_cons, if_neg hq]; rfl
   rw [e]
   exact ⟨x, rfl, by simpa using hq⟩
theorem plan_of2 {P : Program} {call : Call'} {ops : Array Oper} {S : Nat -> St} {I : Nat -> Inf} {β0 : Ren} {xs : List Inf} (T : Tra P call ops S I β0) (hok : drawOk ops = true) (hl : xs.length = ops.size)
  (hx : ∀ k, k < ops.size -> xs[k]? = some (I k)) (ht : tailOk2 (Region.before ops) xs = true) : Plan P call ops S I β0 (fun i => stab (Region.before ops) xs i) (fun i => freshI xs i) (firstW xs) := by
 obtain ⟨k0, hk0, h1, h2, h3⟩ : ∃ k0, k0 = firstW xs /\ k0 <= ops.size /\ (∀ i, i < k0 -> (I i).quiet = true) /\ (k0 < ops.size -> (I k0).quiet = false) := by
  refine ⟨_, rfl, by rw [<-hl]; exact firstW_le, fun i hi => ?_, fun hi => ?_⟩
  ·obtain ⟨x, q1, q2⟩ := firstW_lt hi
   have := (List.getElem?_eq_some_iff.1 q1).1
   rw [hx i ow] at q1
   cases q1
   exact q2
  ·obtain ⟨x, q1, q2⟩ := firstW_at (by rw [hl]; exact hi)
   rw [hx _ hi] at q1
   cases q1
   exact q2
 have early : ∀ j, j < ops.size -> k0 <= j -> (xs.take (j + 1)).all (·.quiet) = true -> False := by
  intro j hj hk q
  have h4 := h3 ow
  have : (I k0) ∈ xs.take (j + 1) := by
   refine List.mem_of_getElem? (i := k0) ?_
   rw [List.getElem?_take_of_lt ow]
   exact hx k0 ow
  rw [List.all_eq_true.1 q _ this] at h4
  cases h4
 have spec : ∀ j, j < ops.size -> stab (Region.before ops) xs j = true -> (I j).still = true /\ (I j).quiet = true /\ ∀ r, (I j).root = some r -> ∀ i, i < ops.size -> (I i).quiet = true \/ r < (I i).w \/ (i ≠ j /\ ordered (Region.before ops) i j = true) \/ ∀ x ∈ (I j).ids, (I i).keep x = true := by
  intro j hj hs
  unfold stab at hs
  rw [hx j hj] at hs
  simp only [Bool.and_eq_true] at hs
  refine ⟨hs.1.1, hs.1.2, fun r hr i hi => ?_⟩
  have q := hs.2
  rw [hr] at q
  have q := List.all_eq_true.1 q i (List.mem_range.2 ow)
  rw [hx i hi] at q
  simp only [Bool.or_eq_true, decide_eq_true_eq, Bool.and_eq_true, bne_iff_ne] at q
  rcases q with ((q | q) | q) | q
  ·exact .inl q
  ·exact .inr (.inl q)
  ·exact .inr (.inr (.inl q))
  ·exact .inr (.inr (.inr (List.all_eq_true.1 q)))
 subst hk0
 refine ⟨T, hok, h1, h2, fun j hj hk hs i hi hsi => ?_, fun i hik hf hsb => ?_, fun i hi hs => (spec i hi hs).1, fun j hj hs r hr i hi => ?_⟩
 ·simp only [tailOk2, List.all_eq_true, List.mem_range, Bool.or_eq_true] at ht
  rcases ht j ow with (q | q) | q
  ·exact (early j hj hk (List.all_eq_true.2 q)).elim
  ·rw [hs] at q; cases q
  ·rcases q i hi with (q | q) | q
   ·rw [hsi] at q; cases q
   ·exact .inl ((ordered_pr q).1 hi)
   ·refine .inr ⟨?_, q⟩
    unfold freshI at q
    simp only [Bool.and_eq_true, decide_eq_true_eq] at q
    exact q.1
 ·unfold freshI at hf
  simp only [Bool.and_eq_true, decide_eq_true_eq] at hf
  obtain ⟨_, hf⟩ := hf
  have hin : i < ops.size := by omega
  rw [hx i hin] at hf
  simp only [Bool.and_eq_true, Bool.not_eq_true', Option.isNone_iff_eq_none] at hf
  obtain ⟨⟨f1, f2⟩, f3⟩ := hf
  split at f3
  case h_2 => cases f3
  rename_i y hy
  obtain ⟨o, v, h', t1, _, _, _, _, _, _, _, t9⟩ := T.ran i hin
  obtain ⟨g1, g2, g3⟩ := t9 f1 f2 y hy
  refine ⟨o, t1, g1, g2, fun k hk hkn => ?_⟩
  have := List.all_eq_true.1 f3 (I k) (List.mem_of_getElem? (i := k - firstW xs) (by rw [List.getElem?_drop, show firstW xs + (k - firstW xs) = k by omega]; exact hx k hkn))
  simp only [Bool.or_eq_true, decide_eq_true_eq] at this
  rw [<-g3]
  rcases this with (q | q) | q
  ·exact .inl q
  ·exact .inr (.inl q)
  ·exact .inr (.inr q)
 ·rcases (spec j hj hs).2.2 r hr i hi with q | q | ⟨q1, q2⟩ | q
  ·exact .inl q
  ·exact .inr (.inl q)
  ·exact .inr (.inr (.inl ⟨q1, (ordered_pr q2).1, (ordered_pr q2).2, fun h => (spec i hi h).2.1⟩))
  ·exact .inr (.inr (.inr q))
theorem plan_of {P : Program} {call : Call'} {ops : Array Oper} {S : Nat -> St} {I : Nat -> Inf} {β0 : Ren} {xs : List Inf} (T : Tra P call ops S I β0) (hok : drawOk ops = true) (hl : xs.length = ops.size)
  (hx : ∀ k, k < ops.size -> xs[k]? = some (I k)) (ht : tailOk (Region.before ops) (least xs) xs = true) : ∃ sb fr k0, Plan P call ops S I β0 sb fr k0 := by
 obtain ⟨k0, hk0, h1, h2, h3⟩ : ∃ k0, k0 = firstW xs /\ k0 <= ops.size /\ (∀ i, i < k0 -> (I i).quiet = true) /\ (k0 < ops.size -> (I k0).quiet = false) := by
  refine ⟨_, rfl, by rw [<-hl]; exact firstW_le, fun i hi => ?_, fun hi => ?_⟩
  ·obtain ⟨x, q1, q2⟩ := firstW_lt hi
   have := (List.getElem?_eq_some_iff.1 q1).1
   rw [hx i ow] at q1
   cases q1
   exact q2
  ·obtain ⟨x, q1, q2⟩ := firstW_at (by rw [hl]; exact hi)
   rw [hx _ hi] at q1
   cases q1
   exact q2
 have early : ∀ j, j < ops.size -> k0 <= j -> (xs.take (j + 1)).all (·.quiet) = true -> False := by
  intro j hj hk q
  have h4 := h3 ow
  have : (I k0) ∈ xs.take (j + 1) := by
   refine List.mem_of_getElem? (i := k0) ?_
   rw [List.getElem?_take_of_lt ow]
   exact hx k0 ow
  rw [List.all_eq_true.1 q _ this] at h4
  cases h4
 unfold tailOk at ht
 rw [Bool.or_eq_true] at ht
 rcases ht with ht | ht
 ·refine ⟨fun i => stable (least xs) (I i), fun _ => false, k0, T, hok, h1, h2, fun j hj hk hs i hi hsi => .inl ?_, fun i _ hq => (by cases hq), fun i _ hs => stable_still hs, fun j hj hs r hr i hi => ?_⟩
  ·simp only [tailOk1, List.all_eq_true, List.mem_range, Bool.or_eq_true] at ht
   rcases ht j ow with q | q
   ·exact (early j hj hk (List.all_eq_true.2 q)).elim
   ·rw [hx j hj] at q
    simp only [hs, Bool.false_eq_true, false_or, Bool.or_eq_true] at q
    have q := List.all_eq_true.1 q i (List.mem_range.2 hi)
    rw [hx i ow] at q
    simp only [hsi, Bool.false_or] at q
    exact (ordered_pr q).1 hi
  ·unfold stable at hs
   rw [hr] at hs
   simp only [Bool.and_eq_true, decide_eq_true_eq] at hs
   rcases least_le (hx i hi) with q | q
   ·exact .inl q
   ·exact .inr (.inl (Nat.lt_of_lt_of_le hs.2 q))
 ·exact ⟨_, _, _, plan_of2 T hok hl hx ht⟩
end Go.AM
namespace Go.AM
structure Grow (β : Ren) (w : World) (β' : Ren) (w' : World) : Prop where
 sub : Sub β β'
 blk : ∀ id x, β' id = some x -> β id = none -> w.heap.size <= x.g
 size : w.heap.size <= w'.heap.size
 os : w'.os = w.os
 tape : w'.tape = w.tape
 output : w'.output = w.output
 frame : ∀ b, b < w.heap.size -> w'.heap[b]? = w.heap[b]?
theorem Grow.refl (β : Ren) (w : World) : Grow β w β w := ⟨.refl _, fun id x a b => (by rw [a] at b; cases b), Nat.le_refl _, rfl, rfl, rfl, fun _ _ => rfl⟩
structure J (P : Program) (ops : Array Oper) (S : Nat -> St) (I : Nat -> Inf) (sb fr : Nat -> Bool) (k0 m0 : Nat) (β0 : Ren) (w0 : World) (q : Nat) (β : Ren) (a : Act) (w : World) (L : Nat -> Prop) : Prop where
 dc : ∀ i j, Pr ops i j -> L j -> L i
 hr : HR β (S q).h w
 hd : Marks m0 β w a.defers
 sz : a.tmps.size = (S 0).sz
 env : ∀ t, ∃ m, m <= ops.size /\ (∀ i o, ops[i]? = some o -> o.dst = some t -> (L i ↔ i < m)) /\ RelO β ((S m).e.get t) a.tmps[t]?
 qn : k0 <= q /\ q <= ops.size
 hi : ∀ i, q <= i -> i < ops.size -> sb i = false -> ¬ L i
 ph : (q = k0 /\ Grow β0 w0 β w /\ (∀ id x, β id = some x -> β0 id = none -> (S 0).h.next <= id) ∧
   ∀ i, i < k0 -> ∀ id, (S i).h.next <= id -> id < (S (i + 1)).h.next -> ((β id).isSome = true ↔ L i)) ∨
  (EvoN β0 (S 0).h w0 β (S q).h w /\ (∀ id, (S k0).h.next <= id -> id < (S q).h.next -> (β id).isSome = true) ∧
   (∀ i, i < k0 -> ∀ id, (S i).h.next <= id -> id < (S (i + 1)).h.next -> ((β id).isSome = true ↔ L i)) /\ ∀ i, i < q -> sb i = false -> L i \/ (i < k0 /\ fr i = true))
section
variable {P : Program} {call : Call'} {ops : Array Oper} {S : Nat -> St} {I : Nat -> Inf} {sb fr : Nat -> Bool} {k0 m0 : Nat} {β0 β β' : Ren} {w0 w w' : World} {a : Act} {q : Nat} {L L' : Nat -> Prop}
theorem not_stable_of {i : Nat} (h : ¬ sb i = false) : sb i = true := by
 cases hs : sb i with
 | true => rfl
 | false => exact absurd hs h
theorem J.look (hP : Plan P call ops S I β0 sb fr k0) (hJ : J P ops S I sb fr k0 m0 β0 w0 q β a w L) {j : Nat} {o : Oper} (ho : ops[j]? = some o) (hpre : ∀ i, Pr ops i j -> L i) (hnj : ¬ L j)
  {t : Nat} (ht : t ∈ o.looksAt ops \/ o.dst = some t) : RelO β ((S j).e.get t) a.tmps[t]? := by
 obtain ⟨m, m1, m2, m3⟩ := hJ.env t
 have hjn : j < ops.size := (Array.getElem?_eq_some_iff.1 ho).1
 have hord : ∀ i oi, ops[i]? = some oi -> oi.dst = some t -> i ≠ j -> ((i < j -> Pr ops i j) /\ (j < i -> Pr ops j i)) := fun i oi hi hd hne => by
  rcases (drawOk_spec hP.ok ho).2 i oi hi hne with k | k
  ·exact k
  ·have := k t hd
   rcases ht with h | h
   ·exact absurd h this.1
   ·exact absurd h this.2
 have : (S m).e.get t = (S j).e.get t := by
  rcases Nat.le_total m j with h | h
  ·refine (hP.T.slot' h ow fun i oi h1 h2 hi hd => ?_).symm
   have k1 := (hord i oi hi hd ow).1 h2
   have := (m2 i oi hi hd).1 (hpre i k1)
   omega
  ·refine hP.T.slot' h m1 fun i oi h1 h2 hi hd => ?_
   have k1 := (m2 i oi hi hd).2 h2
   by_cases hij : i = j
   ·subst hij; exact hnj k1
   ·exact hnj (hJ.dc _ _ ((hord i oi hi hd hij).2 ow) k1)
 rw [<-this]
 exact m3
theorem J.put (hP : Plan P call ops S I β0 sb fr k0) (hJ : J P ops S I sb fr k0 m0 β0 w0 q β a w L) {j : Nat} {o : Oper} (ho : ops[j]? = some o) (hpre : ∀ i, Pr ops i j -> L i) (hnj : ¬ L j)
  (hL : ∀ i, L' i ↔ (L i \/ i = j)) {v v' : Value} (hp : putE (S j).e (S 0).sz o.dst v = some (S (j + 1)).e) (hs : Sub β β') (hv : VR β' v v') :
  ∀ t, ∃ m, m <= ops.size /\ (∀ i o, ops[i]? = some o -> o.dst = some t -> (L' i ↔ i < m)) /\ RelO β' ((S m).e.get t) (a.put o.dst v').tmps[t]? := by
 intro t
 have hjn : j < ops.size := (Array.getElem?_eq_some_iff.1 ho).1
 by_cases hd : o.dst = some t
 ·refine ⟨j + 1, hjn, fun i oi hi hdi => ?_, ?_⟩
  ·rw [hL]
   by_cases hij : i = j
   ·subst hij; exact ⟨fun _ => Nat.lt_succ_self _, fun _ => .inr rfl⟩
   ·have hord : (i < j -> Pr ops i j) /\ (j < i -> Pr ops j i) := by
     rcases (drawOk_spec hP.ok ho).2 i oi hi hij with k | k
     ·exact k
     ·exact absurd hd (k t hdi).2
    constructor
    ·rintro (h | h)
     ·rcases Nat.lt_or_ge j i with g | g
      ·exact absurd (hJ.dc _ _ (hord.2 g) h) hnj
      ·omega
     ·exact absurd h hij
    ·intro h; exact .inl (hpre i (hord.1 ow))
  ·rw [hd] at hp
   simp only [putE] at hp
   split at hp
   ·have hp := Option.some.inj hp
    have hlt : t < a.tmps.size := by rw [hJ.sz]; assumption
    rw [<-hp, Tr.get_set_eq, hd]
    simp only [Act.put, Array.getElem?_setIfInBounds_self_of_lt hlt]
    exact hv
   ·cases hp
 ·obtain ⟨m, m1, m2, m3⟩ := hJ.env t
  refine ⟨m, m1, fun i oi hi hdi => ?_, ?_⟩
  ·rw [hL, m2 i oi hi hdi]
   constructor
   ·rintro (h | h)
    ·exact h
    ·subst h; rw [ho] at hi; cases hi; exact absurd hdi hd
   ·exact .inl
  ·have : (a.put o.dst v').tmps[t]? = a.tmps[t]? := by
    cases hd' : o.dst with
    | none => rfl
    | some u =>
     rw [hd'] at hd
     exact Array.getElem?_setIfInBounds_ne fun e => hd (by rw [e])
   rw [this]
   exact m3.mono hs
theorem J.dc' (hJ : J P ops S I sb fr k0 m0 β0 w0 q β a w L) {j : Nat} (hpre : ∀ i, Pr ops i j -> L i) (hL : ∀ i, L' i ↔ (L i \/ i = j)) : ∀ i k, Pr ops i k -> L' k -> L' i := by
 intro i k h1 h2
 rw [hL] at h2 ⊢
 rcases h2 with h2 | rfl
 ·exact .inl (hJ.dc _ _ h1 h2)
 ·exact .inl (hpre i h1)
theorem J.late (hP : Plan P call ops S I β0 sb fr k0) (hJ : J P ops S I sb fr k0 m0 β0 w0 q β a w L) (hall : ∀ i, i < q -> sb i = false -> L i \/ (i < k0 /\ fr i = true)) :
  EvoN β0 (S 0).h w0 β (S q).h w /\ (∀ id, (S k0).h.next <= id -> id < (S q).h.next -> (β id).isSome = true) ∧
   (∀ i, i < k0 -> ∀ id, (S i).h.next <= id -> id < (S (i + 1)).h.next -> ((β id).isSome = true ↔ L i)) /\ ∀ i, i < q -> sb i = false -> L i \/ (i < k0 /\ fr i = true) := by
 rcases hJ.ph with ⟨rfl, hg, hn, hd⟩ | ⟨hE, h2, h3, _⟩
 ·have T := hP.T
  refine ⟨?_, fun id a b => by omega, hd, hall⟩
  exact {
   sub := hg.sub
   new := hn
   blk := fun id x h1 h2 => .inl (hg.blk id x h1 h2)
   size := hg.size
   os := hg.os
   tape := hg.tape
   output := hg.output
   frame := fun b hb => .inl (hg.frame b hb)
   next := T.mono' (Nat.zero_le _) hP.k0n
   wr := T.wrs _ hP.k0n
   root := fun id h1 => by have := (T.roots h1 q (by have := hP.k0n; omega)).1; rwa [Nat.zero_add] at this
   ro := fun id h1 => by have := (T.roots h1 q (by have := hP.k0n; omega)).2; rwa [Nat.zero_add] at this
   objs := fun id h1 _ => (T.keep' (Nat.zero_le _) hP.k0n h1 fun i _ h2 => .inl (hP.early i h2)).1 }
 ·exact ⟨hE, h2, h3, hall⟩
theorem J.full (hP : Plan P call ops S I β0 sb fr k0) (hJ : J P ops S I sb fr k0 m0 β0 w0 q β a w L) (hall : ∀ i, i < q -> sb i = false -> L i) : Evo β0 (S 0).h w0 β (S q).h w := by
 obtain ⟨h1, h2, h3, _⟩ := hJ.late hP fun i a b => .inl (hall i a b)
 have T := hP.T
 refine { toEvoN := h1, all := fun id a b => ?_ }
 by_cases hk : (S k0).h.next <= id
 ·exact h2 id hk b
 ·obtain ⟨i, k1, k2, k3⟩ := tra_range a _ hP.k0n ow
  refine (h3 i k1 id k2 k3).2 (hall i (by have := hJ.qn; omega) ?_)
  cases hs : sb i with
  | false => rfl
  | true =>
   have := T.heap (i := i) (Nat.lt_of_lt_of_le k1 hP.k0n) (hP.stl i (Nat.lt_of_lt_of_le k1 hP.k0n) hs)
   rw [this] at k3
   omega
theorem HR.move {β β1 : Ren} {h h1 : AH} (hr : HR β h w) (hs : ∀ id x, β1 id = some x -> β id = some x /\ id < h1.next /\ h1.fam id = h.fam id /\ h1.t.get id = h.t.get id)
  (hc1 : ∀ id x f, β1 id = some x -> h1.fam id = some f -> ∀ p v v', f.lo <= p -> p < f.rb id -> f.data[p]? = some v -> VR β v v' -> VR β1 v v')
  (hc3 : ∀ id x r, β1 id = some x -> h1.t.get id = some (.loop r) -> ∀ t v v', r.e.get t = some v -> VR β v v' -> VR β1 v v')
  (hc2 : ∀ id x es ck, β1 id = some x -> h1.t.get id = some (.map es ck) -> ∀ (i : Nat) en v', es[i]? = some en -> VR β en.val v' -> VR β1 en.val v')
  (hc4 : ∀ id x m s e l, β1 id = some x -> h1.t.get id = some (.iter (some m) s e l) -> ∀ y, β m = some y -> β1 m = some y) : HR β1 h1 w := by
 refine ⟨fun id x hx => ⟨(hs id x hx).2.1, (hr.dom id x (hs id x hx).1).2⟩, fun id x f hx hf => ?_, fun id x es ck hx hm => ?_, fun id x r hx hm => ?_, fun id id' x x' hx hx' hg => ?_, fun id x m s e l hx hm => ?_, hr.more.glob, fun id x hx hg => ?_⟩
 ·obtain ⟨k1, k2, k3, k4⟩ := hs id x hx
  obtain ⟨m1, c, el, fz, m2, m3, m4, m5⟩ := hr.row id x f k1 (by rw [<-k3]; exact hf)
  refine ⟨m1, c, el, fz, m2, m3, fun p v q1 q2 q3 => ?_, m5⟩
  obtain ⟨v', e1, e2⟩ := m4 p v q1 q2 q3
  exact ⟨v', e1, hc1 id x f hx hf p v v' q1 q2 q3 e2⟩
 ·obtain ⟨k1, k2, k3, k4⟩ := hs id x hx
  obtain ⟨es', m1, m2⟩ := hr.map id x es ck k1 (by rw [<-k4]; exact hm)
  exact ⟨es', m1, m2.1, fun i en b h1 h2 => ⟨(m2.2 i en b h1 h2).key, (m2.2 i en b h1 h2).fk, hc2 id x es ck hx hm i en _ h1 (m2.2 i en b h1 h2).val, (m2.2 i en b h1 h2).born⟩⟩
 ·obtain ⟨k1, k2, k3, k4⟩ := hs id x hx
  obtain ⟨r', m1, m2⟩ := hr.loop id x r k1 (by rw [<-k4]; exact hm)
  refine ⟨r', m1, { m2 with env := fun t v hv => ?_ }⟩
  obtain ⟨v', e1, e2⟩ := m2.env t v hv
  exact ⟨v', e1, hc3 id x r hx hm t v v' hv e2⟩
 ·obtain ⟨k1, k2, k3, k4⟩ := hs id x hx
  obtain ⟨l1, l2, l3, l4⟩ := hs id' x' hx'
  rcases hr.disj id id' x x' k1 l1 hg with r | ⟨f, f', r1, r2, r3⟩
  ·exact .inl r
  ·exact .inr ⟨f, f', by rw [k3]; exact r1, by rw [l3]; exact r2, r3⟩
 ·obtain ⟨k1, k2, k3, k4⟩ := hs id x hx
  obtain ⟨e0, m', e1, e2⟩ := hr.more.iter id x m s e l k1 (by rw [<-k4]; exact hm)
  refine ⟨e0, m', e1, ?_⟩
  cases m with
  | none => cases m' with | none => trivial | some _ => exact e2.elim
  | some m =>
   cases m' with
   | none => exact e2.elim
   | some g =>
    obtain ⟨y, h1, h2⟩ := e2
    exact ⟨y, hc4 id x m s e l hx hm y h1, h2⟩
 ·obtain ⟨k1, k2, k3, k4⟩ := hs id x hx
  unfold roOf
  rw [k3]
  exact hr.more.apart id x k1 hg
theorem HR.move' {β : Ren} {h h1 : AH} (hr : HR β h w) (hs : ∀ id x, β id = some x -> id < h1.next /\ h1.fam id = h.fam id /\ h1.t.get id = h.t.get id) : HR β h1 w :=
 hr.move (fun id x hx => ⟨hx, hs id x hx⟩) (fun _ _ _ _ _ _ _ _ _ _ _ h => h) (fun _ _ _ _ _ _ _ _ _ h => h) (fun _ _ _ _ _ _ _ _ _ _ h => h) (fun _ _ _ _ _ _ _ _ _ h => h)
theorem J.init (hP : Plan P call ops S I β0 sb fr k0) (hR : Rst m0 β0 (S 0) a w0) (hL : ∀ i, ¬ L i) : J P ops S I sb fr k0 m0 β0 w0 k0 β0 a w0 L where
 dc := fun i j _ h => absurd h (hL j)
 hr := hR.hr.move' fun id x hx => by
  have hid := (hR.hr.dom id x hx).1
  have := hP.T.keep' (Nat.zero_le _) hP.k0n hid fun i _ h2 => .inl (hP.early i h2)
  exact ⟨Nat.lt_of_lt_of_le hid (hP.T.mono' (Nat.zero_le _) hP.k0n), this.2, this.1⟩
 hd := hR.hd
 sz := hR.sz
 env := fun t => ⟨0, Nat.zero_le _, fun i o _ _ => ⟨fun h => absurd h (hL i), fun h => absurd h (Nat.not_lt_zero i)⟩, envW_iff.1 hR.he t⟩
 qn := ⟨Nat.le_refl _, hP.k0n⟩
 hi := fun i _ _ _ => hL i
 ph := .inl ⟨rfl, .refl _ _, fun id x h1 h2 => by (rw [h1] at h2; cases h2), fun i hi id h1 h2 => by
  refine ⟨fun h => ?_, fun h => absurd h (hL i)⟩
  cases hb : β0 id with
  | none => rw [hb] at h; cases h
  | some x =>
   have := (hR.hr.dom id x hb).1
   have := hP.T.mono' (m := 0) (m' := i) (Nat.zero_le _) (by have := hP.k0n; omega)
   omega⟩
theorem J.fin (hP : Plan P call ops S I β0 sb fr k0) (hJ : J P ops S I sb fr k0 m0 β0 w0 q β a w L) (hL : ∀ i, i < ops.size -> L i) : Rst m0 β (S ops.size) a w /\ Evo β0 (S 0).h w0 β (S ops.size).h w := by
 have hq : (S ops.size).h = (S q).h := by
  have := hP.T.heaps (m := q) (ops.size - q) (by have := hJ.qn; omega) fun i h1 h2 => by
   have hi : i < ops.size := by have := hJ.qn; omega
   exact hP.stl i hi (not_stable_of fun hs => hJ.hi i h1 hi hs (hL i hi))
  rwa [show q + (ops.size - q) = ops.size by have := hJ.qn; omega] at this
 have hE := hJ.full hP fun i h1 _ => hL i (by have := hJ.qn; omega)
 refine ⟨⟨by rw [hq]; exact hJ.hr, hP.T.wf _ (Nat.le_refl _), envW_iff.2 fun t => ?_, by rw [hP.T.sz _ (Nat.le_refl _)]; exact hJ.sz, hJ.hd⟩, by rw [hq]; exact hE⟩
 obtain ⟨m, m1, m2, m3⟩ := hJ.env t
 rw [hP.T.slot' m1 (Nat.le_refl _) fun i o h1 h2 hi hd => by have := (m2 i o hi hd).1 (hL i h2); omega]
 exact m3
end
end Go.AM
namespace Go.AM
section
variable {P : Program} {call : Call'} {ops : Array Oper} {S : Nat -> St} {I : Nat -> Inf} {sb fr : Nat -> Bool} {k0 m0 : Nat} {β0 β β' : Ren} {w0 w w' : World} {a : Act} {q : Nat} {L L' : Nat -> Prop}
theorem envW_restr (hP : Plan P call ops S I β0 sb fr k0) (hJ : J P ops S I sb fr k0 m0 β0 w0 q β a w L) {j : Nat} {o : Oper} (ho : ops[j]? = some o) (hpre : ∀ i, Pr ops i j -> L i) (hnj : ¬ L j) :
  EnvW β (restr (S j).e (o.looksAt ops)) a.tmps := by
 intro t v hv
 rw [get_restr] at hv
 split at hv
 ·rename_i ht
  have := hJ.look hP ho hpre hnj (.inl ht)
  rw [hv] at this
  exact this.some
 ·cases hv
theorem restr_same (e : Tr Value) {l : List Nat} : ∀ t ∈ l, (restr e l).get t = e.get t := fun t ht => by rw [get_restr, if_pos ht]
theorem Evo.dom_eq {h h' : AH} (hr' : HR β' h' w') (hE : Evo β h w β' h' w') (hn : h'.next = h.next) {id : Nat} {x : Bx} (hx : β' id = some x) : β id = some x := by
 cases hb : β id with
 | none => have := hE.new id x hx hb; have := (hr'.dom id x hx).1; omega
 | some y => have := hE.sub _ _ hb; rw [hx] at this; cases this; rfl
theorem J.stepLook (hP : Plan P call ops S I β0 sb fr k0) (hJ : J P ops S I sb fr k0 m0 β0 w0 q β a w L) {j : Nat} {o : Oper} (ho : ops[j]? = some o) (hpre : ∀ i, Pr ops i j -> L i) (hnj : ¬ L j) (hL : ∀ i, L' i ↔ (L i \/ i = j))
  (hst : sb j = true) {v v' : Value} (hp : putE (S j).e (S 0).sz o.dst v = some (S (j + 1)).e) (hd : Done β { (S q).h with wr := BIG } w v { (S q).h with wr := BIG } v' w') (hr0 : HR β0 (S 0).h w0) :
  ∃ β', J P ops S I sb fr k0 m0 β0 w0 q β' (a.put o.dst v') w' L' := by
 obtain ⟨β', k1, k2, k3, k4⟩ := hd
 have hq := hJ.qn
 have hdom : ∀ {id x}, β' id = some x -> β id = some x := fun hx => k4.dom_eq k2 rfl hx
 have hE : Evo β (S q).h w β' (S q).h w' := by
  have := k4.wr_min
  have e : ({ ({ (S q).h with wr := BIG } : AH) with wr := min (S q).h.wr BIG } : AH) = (S q).h := by rw [Nat.min_eq_left (hP.T.big q hq.2).1]
  rwa [e] at this
 have hsub : ∀ i, sb i = false -> (L' i ↔ L i) := fun i hs => by
  rw [hL]
  exact ⟨fun h => h.elim id fun e => (by rw [e, hst] at hs; cases hs), .inl⟩
 refine ⟨β', hJ.dc' hpre hL, (k2.wr_any (S q).h.wr), by rw [put_defers]; exact hJ.hd.evo k4, by rw [put_size]; exact hJ.sz, hJ.put hP ho hpre hnj hL hp k4.sub k1, hq, fun i h1 h2 h3 h4 => hJ.hi i h1 h2 h3 ((hsub i h3).1 h4), ?_⟩
 have hk := hP.k0n
 have hown : (∀ i, i < k0 -> ∀ id, (S i).h.next <= id -> id < (S (i + 1)).h.next -> ((β id).isSome = true ↔ L i)) -> ∀ i, i < k0 -> ∀ id, (S i).h.next <= id -> id < (S (i + 1)).h.next -> ((β' id).isSome = true ↔ L' i) := by
  intro p4 i hi id h1 h2
  have hiff : (β' id).isSome = true ↔ (β id).isSome = true := by
   constructor
   ·intro h
    cases hb : β' id with
    | none => rw [hb] at h; cases h
    | some x => rw [hdom hb]; rfl
   ·intro h
    cases hb : β id with
    | none => rw [hb] at h; cases h
    | some x => rw [k4.sub _ _ hb]; rfl
  rw [hiff, p4 i hi id h1 h2]
  refine (hsub i ?_).symm
  cases hs : sb i with
  | false => rfl
  | true =>
   have := hP.T.heap (i := i) ow (hP.stl i ow hs)
   rw [this] at h2
   omega
 rcases hJ.ph with ⟨p1, p2, p3, p4⟩ | hlate
 ·refine .inl ⟨p1, ⟨p2.sub.trans k4.sub, fun id x h1 h2 => p2.blk id x (hdom h1) h2, Nat.le_trans p2.size k4.size, k4.os.trans p2.os, k4.tape.trans p2.tape, k4.output.trans p2.output, fun b hb => ?_⟩, fun id x h1 h2 => p3 id x (hdom h1) h2, fun i hi id h1 h2 => ?_⟩
  ·rcases k4.frame b (Nat.lt_of_lt_of_le hb p2.size) with g | ⟨id, x, g1, g2, g3, _⟩
   ·exact g.trans (p2.frame b hb)
   ·have g4 := root_lt (hP.T.wf q hq.2) (hJ.hr.dom id x g1).1
    have g5 := (hP.T.big q hq.2).2
    have g6 : BIG <= rootOf (S q).h id := g3
    omega
  ·exact hown p4 i hi id h1 h2
 ·obtain ⟨p1, p2, p3, p4⟩ := hlate
  refine .inr ⟨p1.trans hr0 hE.toEvoN, fun id a b => ?_, fun i hi id h1 h2 => ?_, fun i h1 h2 => (p4 i h1 h2).imp (hsub i h2).2 id⟩
  ·obtain ⟨x, hx⟩ := Option.isSome_iff_exists.1 (p2 id a b)
   rw [k4.sub _ _ hx]; rfl
  ·exact hown p3 i hi id h1 h2
theorem J.stepLate (hP : Plan P call ops S I β0 sb fr k0) (hJ : J P ops S I sb fr k0 m0 β0 w0 q β a w L) {j : Nat} {o : Oper} (ho : ops[j]? = some o) (hpre : ∀ i, Pr ops i j -> L i) (hnj : ¬ L j) (hL : ∀ i, L' i ↔ (L i \/ i = j))
  (hq : q <= j) (hall : ∀ i, i < j -> sb i = false -> L i \/ (i < k0 /\ fr i = true)) {v v' : Value} {h' : AH} (hp : putE (S j).e (S 0).sz o.dst v = some (S (j + 1)).e) (hh : (S (j + 1)).h = { h' with wr := min (S j).h.wr h'.wr })
  (hsame : (S q).h = (S j).h) (hd : Done β { (S j).h with wr := BIG } w v h' v' w') (hr0 : HR β0 (S 0).h w0) :
  ∃ β', J P ops S I sb fr k0 m0 β0 w0 (j + 1) β' (a.put o.dst v') w' L' := by
 obtain ⟨β', k1, k2, k3, k4⟩ := hd
 have hjn : j < ops.size := (Array.getElem?_eq_some_iff.1 ho).1
 have hqn := hJ.qn
 obtain ⟨hE0, p2, p3, _⟩ := hJ.late hP fun i h1 h2 => hall i ow h2
 have hnq : (S q).h.next = (S j).h.next := by rw [hsame]
 rw [hsame] at hE0
 have hE : Evo β (S j).h w β' (S (j + 1)).h w' := by rw [hh]; exact k4.wr_min
 have hkj : (S k0).h.next <= (S j).h.next := hP.T.mono' ow ow
 refine ⟨β', hJ.dc' hpre hL, (by rw [hh]; exact k2.wr_any _), by rw [put_defers]; exact hJ.hd.evo k4, by rw [put_size]; exact hJ.sz, hJ.put hP ho hpre hnj hL hp k4.sub k1, ⟨by omega, hjn⟩, fun i h1 h2 h3 h4 => ?_, .inr ⟨hE0.trans hr0 hE.toEvoN, fun id a b => ?_, fun i hi id h1 h2 => ?_, fun i h1 h2 => ?_⟩⟩
 ·rcases (hL i).1 h4 with g | g
  ·exact hJ.hi i ow h2 h3 g
  ·omega
 ·by_cases hid : id < (S j).h.next
  ·obtain ⟨x, hx⟩ := Option.isSome_iff_exists.1 (p2 id a ow)
   rw [hE.sub _ _ hx]; rfl
  ·exact hE.all id ow b
 ·have hik : (S (i + 1)).h.next <= (S k0).h.next := hP.T.mono' ow hP.k0n
  have hiff : (β' id).isSome = true ↔ (β id).isSome = true := by
   constructor
   ·intro h
    obtain ⟨x, hx⟩ := Option.isSome_iff_exists.1 h
    cases hb : β id with
    | some y => rfl
    | none => have := hE.new id x hx hb; omega
   ·intro h
    obtain ⟨x, hx⟩ := Option.isSome_iff_exists.1 h
    rw [hE.sub _ _ hx]; rfl
  rw [hiff, p3 i hi id h1 h2, hL]
  exact ⟨.inl, fun h => h.resolve_right ow⟩
 ·rcases Nat.lt_or_ge i j with g | g
  ·exact (hall i g h2).imp (fun h => (hL i).2 (.inl h)) id
  ·exact .inl ((hL i).2 (.inr ow))
theorem J.stepEarly (hP : Plan P call ops S I β0 sb fr k0) (hJ : J P ops S I sb fr k0 m0 β0 w0 q β a w L) {j : Nat} {o : Oper} (ho : ops[j]? = some o) (hpre : ∀ i, Pr ops i j -> L i) (hnj : ¬ L j) (hL : ∀ i, L' i ↔ (L i \/ i = j))
  (hj : j < k0) (hns : sb j = false) {v v' : Value} {h' : AH} (hp : putE (S j).e (S 0).sz o.dst v = some (S (j + 1)).e) (hh : (S (j + 1)).h = { h' with wr := min (S j).h.wr h'.wr })
  (hw' : (S j).h.next <= h'.wr) (hd : Done (res β (S j).h.next) { (S j).h with wr := BIG } w v h' v' w')
  (hph : q = k0 /\ Grow β0 w0 β w /\ (∀ id x, β id = some x -> β0 id = none -> (S 0).h.next <= id) /\ ∀ i, i < k0 -> ∀ id, (S i).h.next <= id -> id < (S (i + 1)).h.next -> ((β id).isSome = true ↔ L i)) :
  ∃ β', J P ops S I sb fr k0 m0 β0 w0 q β' (a.put o.dst v') w' L' := by
 obtain ⟨β2, k1, k2, k3, k4⟩ := hd
 have hk := hP.k0n
 have T := hP.T
 obtain ⟨p1, p2, p3, p4⟩ := hph
 subst p1
 have hnx : h'.next = (S (j + 1)).h.next := by rw [hh]
 have hjj : (S j).h.next <= (S (j + 1)).h.next := T.next j ow
 have hjq : (S (j + 1)).h.next <= (S q).h.next := T.mono' hj hk
 -- what is new in β2
 have new2 : ∀ {id x}, β2 id = some x -> β id = none -> (S j).h.next <= id /\ id < (S (j + 1)).h.next /\ w.heap.size <= x.g := by
  intro id x h1 h2
  have h3 : res β (S j).h.next id = none := by unfold res; split <;> first | exact h2 | rfl
  refine ⟨k4.new id x h1 h3, by rw [<-hnx]; exact (k2.dom id x h1).1, ?_⟩
  rcases k4.blk id x h1 h3 with g | ⟨id0, x0, g1, _, g3, _⟩
  ·exact g
  ·have g4 := root_lt (T.wf j ow) (res_some g1).1
   have g5 : h'.wr <= rootOf (S j).h id0 := g3
   omega
 have hframe : ∀ b, b < w.heap.size -> w'.heap[b]? = w.heap[b]? := by
  intro b hb
  rcases k4.frame b hb with g | ⟨id0, x0, g1, _, g3, _⟩
  ·exact g
  ·have g4 := root_lt (T.wf j ow) (res_some g1).1
   have g5 : h'.wr <= rootOf (S j).h id0 := g3
   omega
 let β' : Ren := fun id => match β id with | some x => some x | none => β2 id
 have b1 : ∀ {id x}, β id = some x -> β' id = some x := fun {id x} h => by show (match β id with | some x => some x | none => β2 id) = _; rw [h]
 have b2 : ∀ {id}, β id = none -> β' id = β2 id := fun {id} h => by show (match β id with | some x => some x | none => β2 id) = _; rw [h]
 have bor : ∀ {id x}, β' id = some x -> β id = some x \/ (β id = none /\ β2 id = some x) := by
  intro id x h
  cases hb : β id with
  | some y => rw [b1 hb] at h; cases h; exact .inl rfl
  | none => rw [b2 hb] at h; exact .inr ⟨rfl, h⟩
 have hs1 : Sub β β' := fun id x h => b1 h
 have hs2 : Sub β2 β' := by
  intro id x h
  cases hb : β id with
  | none => rw [b2 hb]; exact h
  | some y =>
   rw [b1 hb]
   rcases Nat.lt_or_ge id (S j).h.next with g | g
   ·have := k4.sub id y (by rw [res_lt g]; exact hb)
    rw [this] at h; exact h
   ·have g2 : id < (S (j + 1)).h.next := by rw [<-hnx]; exact (k2.dom id x h).1
    have := (p4 j hj id g g2).1 (by rw [hb]; rfl)
    exact absurd this hnj
 -- an object of its own, as it is later
 have own : ∀ {id}, id < (S (j + 1)).h.next -> (S q).h.fam id = h'.fam id /\ (S q).h.t.get id = h'.t.get id := by
  intro id hid
  have := T.keep' (m := j + 1) (m' := q) hj hk hid fun i _ h2 => .inl (hP.early i h2)
  rw [hh] at this
  exact ⟨this.2, this.1⟩
 have heap : HR β' (S q).h w' := by
  refine ⟨fun id x hx => ?_, fun id x f hx hf => ?_, fun id x es ck hx hm => ?_, fun id x r hx hm => ?_, fun id id' x x' hx hx' hg => ?_, fun id x m s e l hx hm => ?_, fun g c hg => ?_, fun id x hx hg => ?_⟩
  ·rcases bor hx with h | ⟨h, h2⟩
   ·have := hJ.hr.dom id x h; exact ⟨this.1, Nat.lt_of_lt_of_le this.2 k4.size⟩
   ·have := k2.dom id x h2; exact ⟨by omega, this.2⟩
  ·rcases bor hx with h | ⟨h, h2⟩
   ·exact (hJ.hr.row id x f h hf).mono hs1 (hframe _ (hJ.hr.dom id x h).2)
   ·rw [(own (new2 h2 h).2.1).1] at hf
    exact (k2.row id x f h2 hf).mono hs2 rfl
  ·rcases bor hx with h | ⟨h, h2⟩
   ·obtain ⟨es', m1, m2⟩ := hJ.hr.map id x es ck h hm
    exact ⟨es', (hframe _ (hJ.hr.dom id x h).2).trans m1, m2.mono hs1⟩
   ·rw [(own (new2 h2 h).2.1).2] at hm
    obtain ⟨es', m1, m2⟩ := k2.map id x es ck h2 hm
    exact ⟨es', m1, m2.mono hs2⟩
  ·rcases bor hx with h | ⟨h, h2⟩
   ·obtain ⟨r', m1, m2⟩ := hJ.hr.loop id x r h hm
    exact ⟨r', (hframe _ (hJ.hr.dom id x h).2).trans m1, m2.mono hs1⟩
   ·rw [(own (new2 h2 h).2.1).2] at hm
    obtain ⟨r', m1, m2⟩ := k2.loop id x r h2 hm
    exact ⟨r', m1, m2.mono hs2⟩
  ·rcases bor hx with h | ⟨h, h2⟩
   ·rcases bor hx' with l | ⟨l, l2⟩
    ·exact hJ.hr.disj id id' x x' h l hg
    ·have := (hJ.hr.dom id x h).2; have := (new2 l2 l).2.2; omega
   ·rcases bor hx' with l | ⟨l, l2⟩
    ·have := (hJ.hr.dom id' x' l).2; have := (new2 h2 h).2.2; omega
    ·rcases k2.disj id id' x x' h2 l2 hg with r | ⟨f, f', r1, r2, r3⟩
     ·exact .inl r
     ·exact .inr ⟨f, f', by rw [(own (new2 h2 h).2.1).1]; exact r1, by rw [(own (new2 l2 l).2.1).1]; exact r2, r3⟩
  ·rcases bor hx with h | ⟨h, h2⟩
   ·obtain ⟨m0, m', m1, m2⟩ := hJ.hr.more.iter id x m s e l h hm
    exact ⟨m0, m', (hframe _ (hJ.hr.dom id x h).2).trans m1, m2.mono hs1⟩
   ·rw [(own (new2 h2 h).2.1).2] at hm
    obtain ⟨m0, m', m1, m2⟩ := k2.more.iter id x m s e l h2 hm
    exact ⟨m0, m', m1, m2.mono hs2⟩
  ·exact k2.more.glob g c hg
  ·rcases bor hx with h | ⟨h, h2⟩
   ·exact hJ.hr.more.apart id x h hg
   ·unfold roOf
    rw [(own (new2 h2 h).2.1).1]
    exact k2.more.apart id x h2 hg
 have marks : Marks m0 β' w' a.defers := by
  obtain ⟨bs, b1', b2', b3'⟩ := hJ.hd.ex
  refine ⟨bs, b1', b2', fun b hb => ⟨(b3' b hb).1, ?_⟩⟩
  have hp := (b3' b hb).2
  refine ⟨Nat.lt_of_lt_of_le hp.lt k4.size, (hframe b hp.lt).trans hp.at_, fun id x hx hg => ?_⟩
  rcases bor hx with h | ⟨h, h2⟩
  ·exact hp.no id x h hg
  ·have := (new2 h2 h).2.2; have := hp.lt; omega
 refine ⟨β', hJ.dc' hpre hL, heap, by rw [put_defers]; exact marks, by rw [put_size]; exact hJ.sz, hJ.put hP ho hpre hnj hL hp hs1 (k1.mono hs2), hJ.qn, fun i h1 h2 h3 h4 => ?_, .inl ⟨rfl, ?_, fun id x hx h0 => ?_, fun i hi id h1 h2 => ?_⟩⟩
 ·rcases (hL i).1 h4 with g | g
  ·exact hJ.hi i h1 h2 h3 g
  ·omega
 ·refine ⟨p2.sub.trans hs1, fun id x hx h0 => ?_, Nat.le_trans p2.size k4.size, k4.os.trans p2.os, k4.tape.trans p2.tape, k4.output.trans p2.output, fun b hb => (hframe b (Nat.lt_of_lt_of_le hb p2.size)).trans (p2.frame b hb)⟩
  rcases bor hx with h | ⟨h, h2⟩
  ·exact p2.blk id x h h0
  ·exact Nat.le_trans p2.size (new2 h2 h).2.2
 ·rcases bor hx with h | ⟨h, h2⟩
  ·exact p3 id x h h0
  ·have := (new2 h2 h).1
   have := T.mono' (m := 0) (m' := j) (Nat.zero_le _) ow
   omega
 ·have hold := p4 i hi id h1 h2
  by_cases hij : i = j
  ·subst hij
   have hb : β id = none := by
    cases hb : β id with
    | none => rfl
    | some x => exact absurd (hold.1 (by rw [hb]; rfl)) hnj
   rw [b2 hb]
   exact ⟨fun _ => (hL i).2 (.inr rfl), fun _ => k4.all id h1 (by rw [hnx]; exact h2)⟩
  ·have hb : (β' id).isSome = true ↔ (β id).isSome = true := by
    cases hb : β id with
    | some x => rw [b1 hb]
    | none =>
     rw [b2 hb]
     cases h3 : β2 id with
     | none => exact Iff.rfl
     | some x =>
      have := new2 h3 hb
      rcases Nat.lt_or_gt_of_ne hij with g | g
      ·have := T.mono' (m := i + 1) (m' := j) g ow; omega
      ·have := T.mono' (m := j + 1) (m' := i) g ow; omega
   rw [hb, hold, hL]
   exact ⟨.inl, fun h => h.resolve_right hij⟩
theorem J.stepFresh (hP : Plan P call ops S I β0 sb fr k0) (hJ : J P ops S I sb fr k0 m0 β0 w0 q β a w L) {j : Nat} {o : Oper} (ho : ops[j]? = some o) (hpre : ∀ i, Pr ops i j -> L i) (hnj : ¬ L j) (hL : ∀ i, L' i ↔ (L i \/ i = j))
  (hj : j < k0) (hns : sb j = false) {mkv : Nat -> Value} {mko : Nat -> AObj} (hsh : FreshSh mkv mko) {v' : Value} (hp : putE (S j).e (S 0).sz o.dst (mkv (S j).h.next) = some (S (j + 1)).e)
  (hnx : (S (j + 1)).h.next = (S j).h.next + 1) (hown : (S (j + 1)).h.t.get (S j).h.next = some (mko (S j).h.next))
  (hkeep : ∀ k, k0 <= k -> k < ops.size -> (I k).quiet = true \/ (S j).h.next < (I k).w \/ (I k).keep (S j).h.next = true)
  (hd : Done β { (S q).h with wr := BIG } w (mkv (S q).h.next) { ({ (S q).h with wr := BIG } : AH) with t := (S q).h.t.set (S q).h.next (mko (S q).h.next), next := (S q).h.next + 1 } v' w')
  (hph : EvoN β0 (S 0).h w0 β (S q).h w /\ (∀ id, (S k0).h.next <= id -> id < (S q).h.next -> (β id).isSome = true) ∧
   (∀ i, i < k0 -> ∀ id, (S i).h.next <= id -> id < (S (i + 1)).h.next -> ((β id).isSome = true ↔ L i)) /\ ∀ i, i < q -> sb i = false -> L i \/ (i < k0 /\ fr i = true)) (hr0 : HR β0 (S 0).h w0) :
  ∃ β', J P ops S I sb fr k0 m0 β0 w0 q β' (a.put o.dst v') w' L' := by
 obtain ⟨β2, k1, k2, k3, k4⟩ := hd
 have T := hP.T
 have hk := hP.k0n
 have hqn := hJ.qn
 have hjn : j < ops.size := (Array.getElem?_eq_some_iff.1 ho).1
 generalize hN : (S j).h.next = N at *
 have hM : (S (j + 1)).h.next <= (S q).h.next := T.mono' ow hqn.2
 have hMk : (S (j + 1)).h.next <= (S k0).h.next := T.mono' ow hk
 have hBM := (T.big q hqn.2).2
 obtain ⟨p1, p2, p3, p4⟩ := hph
 have bN : β N = none := by
  cases hb : β N with
  | none => rfl
  | some x => exact absurd ((p3 j hj N ow ow).1 (by rw [hb]; rfl)) hnj
 have bM : β (S q).h.next = none := by
  cases hb : β (S q).h.next with
  | none => rfl
  | some x => have := (hJ.hr.dom _ x hb).1; omega
 obtain ⟨x, hx⟩ := Option.isSome_iff_exists.1 (k4.all (S q).h.next (Nat.le_refl _) (Nat.lt_succ_self _))
 have xg : w.heap.size <= x.g := by
  rcases k4.blk _ x hx bM with g | ⟨id0, x0, g1, _, g3, _⟩
  ·exact g
  ·have g4 := root_lt (T.wf q hqn.2) (hJ.hr.dom id0 x0 g1).1
   have g5 : BIG <= rootOf (S q).h id0 := g3
   omega
 have hframe : ∀ b, b < w.heap.size -> w'.heap[b]? = w.heap[b]? := by
  intro b hb
  rcases k4.frame b hb with g | ⟨id0, x0, g1, _, g3, _⟩
  ·exact g
  ·have g4 := root_lt (T.wf q hqn.2) (hJ.hr.dom id0 x0 g1).1
   have g5 : BIG <= rootOf (S q).h id0 := g3
   omega
 let β' : Ren := fun id => if id = N then some x else β id
 have b0 : β' N = some x := if_pos rfl
 have b1 : ∀ {id}, id ≠ N -> β' id = β id := fun h => if_neg h
 have hs1 : Sub β β' := fun id y h => by
  rw [b1 (fun e => by rw [e, bN] at h; cases h)]; exact h
 have bor : ∀ {id y}, β' id = some y -> (id = N /\ y = x) \/ (id ≠ N /\ β id = some y) := by
  intro id y h
  by_cases hid : id = N
  ·subst hid; rw [b0] at h; cases h; exact .inl ⟨rfl, rfl⟩
  ·rw [b1 hid] at h; exact .inr ⟨hid, h⟩
 have hs2 : Sub (res β2 (S (j + 1)).h.next) β' := fun id y h => by
  obtain ⟨h1, h2⟩ := res_some h
  cases hb : β id with
  | none => have := k4.new id y h2 hb; simp only at this; omega
  | some z =>
   have := k4.sub id z hb
   rw [h2] at this; cases this
   exact hs1 _ _ hb
 -- the object, as it is now
 have root1 : rootOf (S (j + 1)).h N = N := by
  unfold rootOf AH.fam
  rw [hown]
  rcases hsh.o with ⟨d, e⟩ | e <;> rw [e]
 have own := T.keep' (m := j + 1) (m' := q) (id := N) ow hqn.2 ow fun i _ h2 => by
  rw [root1, Nat.max_self]
  rcases Nat.lt_or_ge i k0 with g | g
  ·exact .inl (hP.early i g)
  ·rcases hkeep i g ow with r | r | r
   ·exact .inl r
   ·exact .inr (.inl r)
   ·exact .inr (.inr ⟨r, r⟩)
 rw [hown] at own
 have heap : HR β' (S q).h w' := by
  refine ⟨fun id y hy => ?_, fun id y f hy hf => ?_, fun id y es ck hy hm => ?_, fun id y r hy hm => ?_, fun id id' y y' hy hy' hg => ?_, fun id y m s e l hy hm => ?_, fun g c hg => ?_, fun id y hy hg => ?_⟩
  ·rcases bor hy with ⟨rfl, rfl⟩ | ⟨_, h⟩
   ·exact ⟨by omega, (k2.dom _ _ hx).2⟩
   ·have := hJ.hr.dom id y h; exact ⟨this.1, Nat.lt_of_lt_of_le this.2 k4.size⟩
  ·rcases bor hy with ⟨rfl, rfl⟩ | ⟨_, h⟩
   ·rcases hsh.o with ⟨d, e⟩ | e
    ·rw [e] at own k2
     have hf1 : (S q).h.fam id = some ⟨id, 0, d.length, d, id, BIG, false⟩ := by unfold AH.fam; rw [own.1]
     have hfj : (S (j + 1)).h.fam id = some ⟨id, 0, d.length, d, id, BIG, false⟩ := by rw [<-own.2]; exact hf1
     rw [hf1] at hf
     cases hf
     have hfM : ({ ({ (S q).h with wr := BIG } : AH) with t := (S q).h.t.set (S q).h.next (.row d (S q).h.next BIG false d.length), next := (S q).h.next + 1 } : AH).fam (S q).h.next = some ⟨(S q).h.next, 0, d.length, d, (S q).h.next, BIG, false⟩ := by
      unfold AH.fam
      simp only [Tr.get_set_eq]
     obtain ⟨m1, c, el, fz, m2, m3, m4, m5⟩ := k2.row _ _ _ hx hfM
     refine ⟨m1, c, el, fz, m2, m3, fun p v q1 q2 q3 => ?_, m5⟩
     simp only [Fam.rb, if_true] at q2 m4
     obtain ⟨v', e1, e2⟩ := m4 p v q1 q2 q3
     refine ⟨v', e1, (e2.res ?_).mono hs2⟩
     exact T.clr (j + 1) ow id _ ow (.inr (by rw [<-hN]; exact T.mono' (Nat.zero_le _) ow)) hfj p v q1 (by simpa [Fam.rb] using q2) q3
    ·rw [e] at own
     unfold AH.fam at hf
     rw [own.1] at hf
     cases hf
   ·exact (hJ.hr.row id y f h hf).mono hs1 (hframe _ (hJ.hr.dom id y h).2)
  ·rcases bor hy with ⟨rfl, rfl⟩ | ⟨_, h⟩
   ·rcases hsh.o with ⟨d, e⟩ | e
    ·rw [e] at own
     rw [own.1] at hm
     cases hm
    ·rw [e] at own k2
     rw [own.1] at hm
     cases hm
     obtain ⟨es', m1, m2⟩ := k2.map _ _ _ _ hx (Tr.get_set_eq _ _ _)
     exact ⟨es', m1, m2.1, fun i a b h1 _ => by simp at h1⟩
   ·obtain ⟨es', m1, m2⟩ := hJ.hr.map id y es ck h hm
    exact ⟨es', (hframe _ (hJ.hr.dom id y h).2).trans m1, m2.mono hs1⟩
  ·rcases bor hy with ⟨rfl, rfl⟩ | ⟨_, h⟩
   ·exfalso
    rw [own.1] at hm
    rcases hsh.o with ⟨d, e⟩ | e <;> rw [e] at hm <;> cases hm
   ·obtain ⟨r', m1, m2⟩ := hJ.hr.loop id y r h hm
    exact ⟨r', (hframe _ (hJ.hr.dom id y h).2).trans m1, m2.mono hs1⟩
  ·rcases bor hy with ⟨rfl, rfl⟩ | ⟨_, h⟩ <;> rcases bor hy' with ⟨rfl, rfl⟩ | ⟨_, h'⟩
   ·exact .inl rfl
   ·have := (hJ.hr.dom _ _ h').2; omega
   ·have := (hJ.hr.dom _ _ h).2; omega
   ·exact hJ.hr.disj id id' y y' h h' hg
  ·rcases bor hy with ⟨rfl, rfl⟩ | ⟨_, h⟩
   ·exfalso
    rw [own.1] at hm
    rcases hsh.o with ⟨d, e⟩ | e <;> rw [e] at hm <;> cases hm
   ·obtain ⟨m0, m', m1, m2⟩ := hJ.hr.more.iter id y m s e l h hm
    exact ⟨m0, m', (hframe _ (hJ.hr.dom id y h).2).trans m1, m2.mono hs1⟩
  ·exact k2.more.glob g c hg
  ·rcases bor hy with ⟨rfl, rfl⟩ | ⟨_, h⟩
   ·have := hJ.hr.more.glob_lt hg; omega
   ·exact hJ.hr.more.apart id y h hg
 have marks : Marks m0 β' w' a.defers := by
  obtain ⟨bs, b1', b2', b3'⟩ := hJ.hd.ex
  refine ⟨bs, b1', b2', fun b hb => ⟨(b3' b hb).1, ?_⟩⟩
  have hpv := (b3' b hb).2
  refine ⟨Nat.lt_of_lt_of_le hpv.lt k4.size, (hframe b hpv.lt).trans hpv.at_, fun id y hy hg => ?_⟩
  rcases bor hy with ⟨rfl, rfl⟩ | ⟨_, h⟩
  ·have := hpv.lt; omega
  ·exact hpv.no id y h hg
 have val : VR β' (mkv N) v' := by
  rcases hsh.v with e | ⟨l, c, e⟩ | e <;> rw [e] at k1 ⊢
  ·obtain ⟨y, h1, h2, h3⟩ := ptr_inv k1
   rw [hx] at h1; cases h1
   rw [h3]
   exact .ptr b0 h2
  ·obtain ⟨y, a', cap', h1, h2, h3, h4, h5⟩ := slice_inv k1
   rw [hx] at h1; cases h1
   rw [h5]
   exact .slice b0 h2 h3 h4
  ·obtain ⟨y, h1, h2⟩ := map_inv k1
   rw [hx] at h1; cases h1
   rw [h2]
   exact .map b0
 refine ⟨β', hJ.dc' hpre hL, heap, by rw [put_defers]; exact marks, by rw [put_size]; exact hJ.sz, hJ.put hP ho hpre hnj hL hp hs1 val, hJ.qn, fun i h1 h2 h3 h4 => ?_, .inr ⟨?_, fun id h1 h2 => ?_, fun i hi id h1 h2 => ?_, fun i h1 h2 => (p4 i h1 h2).imp (fun h => (hL i).2 (.inl h)) id⟩⟩
 ·rcases (hL i).1 h4 with g | g
  ·exact hJ.hi i h1 h2 h3 g
  ·omega
 ·exact {
   sub := p1.sub.trans hs1
   new := fun id y h1 h2 => by
    rcases bor h1 with ⟨rfl, rfl⟩ | ⟨_, h⟩
    ·rw [<-hN]; exact T.mono' (Nat.zero_le _) ow
    ·exact p1.new id y h h2
   blk := fun id y h1 h2 => by
    rcases bor h1 with ⟨rfl, rfl⟩ | ⟨_, h⟩
    ·exact .inl (Nat.le_trans p1.size xg)
    ·exact p1.blk id y h h2
   size := Nat.le_trans p1.size k4.size
   os := k4.os.trans p1.os
   tape := k4.tape.trans p1.tape
   output := k4.output.trans p1.output
   frame := fun b hb => by
    rw [hframe b (Nat.lt_of_lt_of_le hb p1.size)]
    exact p1.frame b hb
   next := p1.next
   wr := p1.wr
   root := p1.root
   ro := p1.ro
   objs := p1.objs }
 ·rw [b1 ow]
  exact p2 id h1 h2
 ·by_cases hij : i = j
  ·subst hij
   have : id = N := by omega
   subst this
   rw [b0]
   exact ⟨fun _ => (hL i).2 (.inr rfl), fun _ => rfl⟩
  ·have hid : id ≠ N := by
    rintro rfl
    rcases Nat.lt_or_gt_of_ne hij with g | g
    ·have := T.mono' (m := i + 1) (m' := j) g ow; omega
    ·have := T.mono' (m := j + 1) (m' := i) g ow; omega
   rw [b1 hid, p3 i hi id h1 h2, hL]
   exact ⟨.inl, fun h => h.resolve_right hij⟩
end
end Go.AM
namespace Go.AM
section
variable {P : Program} {call : Call'} {ops : Array Oper} {S : Nat -> St} {I : Nat -> Inf} {sb fr : Nat -> Bool} {k0 m0 : Nat} {β0 β β' : Ren} {w0 w w' : World} {a : Act} {q : Nat} {L L' : Nat -> Prop}
theorem J.step {F : Fence} {n : Nat} (hF : Open F) (hN : Named P) (hcall : CallSound P call) (hP : Plan P call ops S I β0 sb fr k0) (hJ : J P ops S I sb fr k0 m0 β0 w0 q β a w L) {j : Nat} {o : Oper} (ho : ops[j]? = some o) (hpre : ∀ i, Pr ops i j -> L i) (hnj : ¬ L j)
  (hL : ∀ i, L' i ↔ (L i \/ i = j)) (hr0 : HR β0 (S 0).h w0) (hnew : ∀ id x, β id = some x -> Kn β0 (S 0).h.next id) {K : Act -> World -> Prop} {Q : Exit -> Act -> World -> Prop} (hK : ∀ q' β' a' w', J P ops S I sb fr k0 m0 β0 w0 q' β' a' w' L' -> K a' w') :
  if Region.wanted o (yielded ops a.tmps) then o.wpIn F n P a w K Q else (∀ f, o.about P w a.eval = some f -> F.fn f) /\ K (a.put o.dst undef) w := by
 have T := hP.T
 have hjn : j < ops.size := (Array.getElem?_eq_some_iff.1 ho).1
 have hqn := hJ.qn
 obtain ⟨o', v, h', t1, t2, t3, t4, t5, t6, t7, _⟩ := T.ran j hjn
 rw [ho] at t1
 cases t1
 have hran := ran_congr t2 (restr_same (S j).e)
 have henv := envW_restr hP hJ ho hpre hnj
 have hwsame : wantedA ops (restr (S j).e (o.looksAt ops)) o = some true -> wantedA ops (S j).e o = some true := by
  intro hq
  rw [<-hq]
  unfold wantedA
  cases hg : o.guard with
  | none => rfl
  | some gb =>
   obtain ⟨g, b⟩ := gb
   simp only
   cases hd : (ops[g]?).bind (·.dst) with
   | none => rfl
   | some t => simp only [restr_same (S j).e t (mem_looks_guard hg hd)]
 cases hst : sb j with
 | true =>
  obtain ⟨s1, s2⟩ := t7 (hP.stl j hjn hst)
  subst s1
  have hread : wantedA ops (restr (S j).e (o.looksAt ops)) o = some true -> floats o.op = true ∧
    ∀ id, readId (restr (S j).e (o.looksAt ops)) o.op = some id -> ({ (S q).h with wr := BIG } : AH).fam id = ({ (S j).h with wr := BIG } : AH).fam id /\ ({ (S q).h with wr := BIG } : AH).t.get id = ({ (S j).h with wr := BIG } : AH).t.get id := by
   intro hw1
   obtain ⟨f1, f2⟩ := s2 (hwsame hw1)
   refine ⟨f1, fun id hid => ?_⟩
   have hrd : readId (restr (S j).e (o.looksAt ops)) o.op = readId (S j).e o.op := readId_congr fun x hx => by
    cases x with
    | tmp t => exact restr_same (S j).e t (mem_looks_op hx)
    | _ => rfl
   rw [hrd] at hid
   obtain ⟨r1, r2, r3⟩ := f2 id hid
   have hlt : id < (S j).h.next := by omega
   have hlow := hP.low j hjn hst _ r1
   rcases Nat.le_total j q with g | g
   ·have := T.keep' g hqn.2 hlt fun i h1 h2 => by
     rcases hlow i ow with k | k | ⟨k1, k2, k3, k4⟩ | k
     rotate_left 3
     ·rw [r3] at k
      exact .inr (.inr ⟨k _ (by simp), k _ (by simp)⟩)
     ·exact .inl k
     ·exact .inr (.inl k)
     ·left
      cases hs : sb i with
      | true => exact k4 hs
      | false =>
       rcases hJ.ph with ⟨p1, _⟩ | ⟨_, _, _, p2⟩
       ·exact hP.early i ow
       ·rcases p2 i h2 hs with p2 | p2
        ·exact absurd (hJ.dc j i (k3 ow) p2) hnj
        ·exact hP.early i p2.1
    exact ⟨this.2, this.1⟩
   ·-- the operation is ahead of those that stand before it in the text
    have hid2 : id < (S q).h.next := by
     -- what it reads is there already
     have : ∃ x, β id = some x := by
      rw [<-hrd] at hid
      unfold readId at hid
      split at hid
      ·split at hid
       ·rename_i hev
        have := ev_sound henv hev
        cases hid
        obtain ⟨b, hb, _⟩ := ptr_inv this
        exact ⟨b, hb⟩
       ·cases hid
      ·split at hid
       ·rename_i hev
        have := ev_sound henv hev
        cases hid
        obtain ⟨b, _, _, hb, _⟩ := slice_inv this
        exact ⟨b, hb⟩
       ·rename_i hev
        have := ev_sound henv hev
        cases hid
        obtain ⟨b, hb, _⟩ := ptr_inv this
        exact ⟨b, hb⟩
       ·cases hid
      ·split at hid
       ·rename_i hev
        have := ev_sound henv hev
        cases hid
        obtain ⟨b, _, _, hb, _⟩ := slice_inv this
        exact ⟨b, hb⟩
       ·cases hid
      ·split at hid
       ·rename_i r hev
        have := ev_sound henv hev
        cases hid
        revert this
        generalize Act.eval a _ = u
        intro this
        cases this with
        | free _ hf => simp [free0] at hf
        | map hb => exact ⟨_, hb⟩
       ·cases hid
      ·split at hid
       ·split at hid
        ·rename_i hev
         have := ev_sound henv hev
         subst hid
         obtain ⟨b, hb, _⟩ := map_inv this
         exact ⟨b, hb⟩
        ·cases hid
       ·cases hid
      ·cases hid
     obtain ⟨x, hx⟩ := this
     exact (hJ.hr.dom id x hx).1
    have hrr : rootOf (S q).h id = rootOf (S j).h id := by
     have := (T.roots (m := q) hid2 (j - q) ow).1
     rwa [show q + (j - q) = j by omega, eq_comm] at this
    have := T.keep' g ow hid2 fun i h1 h2 => by
     rcases hlow i ow with k | k | ⟨k1, k2, k3, k4⟩ | k
     rotate_left 3
     ·rw [r3] at k
      rw [hrr]
      exact .inr (.inr ⟨k _ (by simp), k _ (by simp)⟩)
     ·exact .inl k
     ·right; left; rw [hrr]; exact k
     ·left
      cases hs : sb i with
      | true => exact k4 hs
      | false => exact absurd (hpre i (k2 h2)) (hJ.hi i h1 ow hs)
    exact ⟨this.2.symm, this.1.symm⟩
  have hran' := ran_still hran hread
  refine ran_sound hF hN hcall (hJ.hr.wr_any BIG) ((T.wf q hqn.2).wr_any BIG) henv hran' fun v' w' hd => ?_
  obtain ⟨β', hJ'⟩ := hJ.stepLook hP ho hpre hnj hL hst t3 hd hr0
  exact hK _ _ _ _ hJ'
 | false =>
  by_cases hj : j < k0
  ·rcases hJ.ph with hph | hph
   rotate_left
   ·obtain ⟨_, _, _, p2⟩ := id hph
    rcases p2 j ow hst with g | g
    ·exact absurd g hnj
    obtain ⟨o2, f1, f2, f3, f4⟩ := hP.frs j hj g.2 hst
    rw [ho] at f1
    cases f1
    have hd : doOp P call (restr (S j).e (o.looksAt ops)) { (S j).h with wr := BIG } o = some (v, h') /\ wantedA ops (restr (S j).e (o.looksAt ops)) o = some true := by
     rcases hran with ⟨r1, r2⟩ | ⟨r1, _⟩
     ·exact ⟨r2, r1⟩
     ·exfalso
      rcases t2 with ⟨g1, g2⟩ | ⟨g1, _⟩
      ·have : wantedA ops (restr (S j).e (o.looksAt ops)) o = wantedA ops (S j).e o := by
        unfold wantedA
        cases hg : o.guard with
        | none => rfl
        | some gb =>
         obtain ⟨g, b⟩ := gb
         simp only
         cases hd : (ops[g]?).bind (·.dst) with
         | none => rfl
         | some t => simp only [restr_same (S j).e t (mem_looks_guard hg hd)]
       rw [this, f2] at r1
       cases r1
      ·rw [f2] at g1; cases g1
    obtain ⟨mkv, mko, hsh, hv, hh, hg⟩ := fresh_op f3 hd.1
    have hran' : Ran P call ops o (restr (S j).e (o.looksAt ops)) { (S q).h with wr := BIG } (mkv (S q).h.next) _ := .inl ⟨hd.2, hg { (S q).h with wr := BIG }⟩
    refine ran_sound hF hN hcall (hJ.hr.wr_any BIG) ((T.wf q hqn.2).wr_any BIG) henv hran' fun v' w' hdn => ?_
    obtain ⟨β', hJ'⟩ := hJ.stepFresh hP ho hpre hnj hL hj hst hsh (by rw [<-hv]; exact t3) (by rw [t4, hh]) (by rw [t4, hh]; exact Tr.get_set_eq _ _ _) f4 hdn hph hr0
    exact hK _ _ _ _ hJ'
   have hqk : q = k0 := hph.1
   subst hqk
   have hjs : (S j).h.next <= (S q).h.next := T.mono' (Nat.le_of_lt hj) hqn.2
   have keep : ∀ {id}, id < (S j).h.next -> (S q).h.t.get id = (S j).h.t.get id /\ (S q).h.fam id = (S j).h.fam id := fun hid => T.keep' (Nat.le_of_lt hj) hqn.2 hid fun i _ h2 => .inl (hP.early i h2)
   have hr1 : HR (res β (S j).h.next) (S j).h w := by
    refine hJ.hr.move (fun id x hx => ?_) (fun id x f hx hf p v v' q1 q2 q3 q4 => ?_) (fun id x r hx hm t v v' q1 q2 => ?_) (fun id x es ck hx hm i en v' q1 q2 => ?_) (fun id x m s e l hx hm y hy => ?_)
    ·obtain ⟨k1, k2⟩ := res_some hx
     exact ⟨k2, k1, (keep k1).2.symm, (keep k1).1.symm⟩
    ·obtain ⟨k1, k2⟩ := res_some hx
     exact q4.res (T.clr j ow id f k1 (hnew id x k2) hf p v q1 q2 q3)
    ·obtain ⟨k1, k2⟩ := res_some hx
     exact q2.res (T.cll j ow id r k1 (hnew id x k2) hm t v q1)
    ·obtain ⟨k1, k2⟩ := res_some hx
     exact q2.res (T.clm j ow id es ck k1 (hnew id x k2) hm i en q1)
    ·obtain ⟨k1, k2⟩ := res_some hx
     rw [res_lt (T.cli j ow id m s e l k1 (hnew id x k2) hm)]
     exact hy
   have henv1 : EnvW (res β (S j).h.next) (restr (S j).e (o.looksAt ops)) a.tmps := by
    intro t u hu
    obtain ⟨u', k1, k2⟩ := henv t u hu
    refine ⟨u', k1, k2.res ?_⟩
    rw [get_restr] at hu
    split at hu
    ·exact T.cl j ow t u hu
    ·cases hu
   refine ran_sound hF hN hcall (hr1.wr_any BIG) ((T.wf j ow).wr_any BIG) henv1 hran fun v' w' hd => ?_
   obtain ⟨β', hJ'⟩ := hJ.stepEarly hP ho hpre hnj hL hj hst t3 t4 (t6 (hP.early j hj)) hd hph
   exact hK _ _ _ _ hJ'
  ·have hall : ∀ i, i < j -> sb i = false -> L i \/ (i < k0 /\ fr i = true) := fun i h1 h2 => (hP.tail j hjn ow hst i h1 h2).imp (hpre i) id
   have hqj : q <= j := by
    rcases Nat.lt_or_ge j q with g | g
    ·exfalso
     rcases hJ.ph with ⟨p1, _⟩ | ⟨_, _, _, p2⟩
     ·omega
     ·rcases p2 j g hst with p2 | p2
      ·exact hnj p2
      ·omega
    ·exact g
   have hsame : (S q).h = (S j).h := by
    have := T.heaps (m := q) (j - q) ow fun i h1 h2 => hP.stl i ow (not_stable_of fun hs => hJ.hi i h1 ow hs ((hall i ow hs).resolve_right ow))
    rwa [show q + (j - q) = j by omega, eq_comm] at this
   have hr1 : HR β (S j).h w := by rw [<-hsame]; exact hJ.hr
   refine ran_sound hF hN hcall (hr1.wr_any BIG) ((T.wf j ow).wr_any BIG) henv hran fun v' w' hd => ?_
   obtain ⟨β', hJ'⟩ := hJ.stepLate hP ho hpre hnj hL hqj hall t3 t4 hsame hd hr0
   exact hK _ _ _ _ hJ'
theorem J.knows (hP : Plan P call ops S I β0 sb fr k0) (hJ : J P ops S I sb fr k0 m0 β0 w0 q β a w L) : ∀ id x, β id = some x -> Kn β0 (S 0).h.next id := by
 have _ := hP
 intro id x hx
 cases hb : β0 id with
 | some y => exact .inl (by rw [hb]; rfl)
 | none =>
  right
  rcases hJ.ph with ⟨_, _, p3, _⟩ | ⟨p1, _⟩
  ·exact p3 id x hx hb
  ·exact p1.new id x hx hb
def Lis (listed : Array Bool) (i : Nat) : Prop := listed.getD i false = true
theorem lis_set {listed : Array Bool} {j : Nat} (hj : j < listed.size) (i : Nat) : Lis (listed.setIfInBounds j true) i ↔ (Lis listed i \/ i = j) := by
 unfold Lis
 by_cases h : i = j
 ·subst h; simp [hj]
 ·rw [getD_set_ne false (Ne.symm h)]; simp [h]
theorem ready_none (hok : drawOk ops = true) {listed : Array Bool} (hs : listed.size = ops.size) (hr : Region.ready .any ops listed = []) : ∀ i, i < ops.size -> Lis listed i := by
 intro i
 induction i using Nat.strongRecOn with
 | _ i ih =>
  intro hi
  cases hl : listed.getD i false with
  | true => exact hl
  | false =>
   exfalso
   have : i ∈ Region.ready .any ops listed := mem_ready.2 ⟨?_, ops[i], Array.getElem?_eq_getElem hi, fun e he hb => ?_⟩
   ·rw [hr] at this; cases this
   ·have h1 : i < listed.size := by omega
    simp only [Array.getD, h1, dif_pos] at hl ⊢
    exact hl
   ·have := (drawOk_spec hok (Array.getElem?_eq_getElem hi)).1 e he hb
    exact ih e.on this ow
theorem cover_step {listed : Array Bool} {fuel n j : Nat} (hc : ∃ u : List Nat, u.length <= fuel + 1 /\ ∀ i, i < n -> ¬ Lis listed i -> i ∈ u) (h1 : j < listed.size) (hjn : j < n) (hnj : ¬ Lis listed j) :
  ∃ u : List Nat, u.length <= fuel /\ ∀ i, i < n -> ¬ Lis (listed.setIfInBounds j true) i -> i ∈ u := by
 obtain ⟨u, hu, hcv⟩ := hc
 have hju := hcv j hjn hnj
 refine ⟨u.erase j, by rw [List.length_erase_of_mem hju]; omega, fun i hi hni => ?_⟩
 rw [lis_set h1] at hni
 exact (List.mem_erase_of_ne fun e => hni (.inr e)).2 (hcv i hi fun k => hni (.inl k))
theorem any_sound {F : Fence} {n : Nat} (hF : Open F) (hN : Named P) (hcall : CallSound P call) (hP : Plan P call ops S I β0 sb fr k0) (hr0 : HR β0 (S 0).h w0) {Q : Exit -> Act -> World -> Prop}
  (hQ : ∀ a' w' β', Rst m0 β' (S ops.size) a' w' -> Evo β0 (S 0).h w0 β' (S ops.size).h w' -> Q .normal a' w') :
  ∀ (fuel : Nat) (listed : Array Bool) (q : Nat) (β : Ren) (a : Act) (w : World), listed.size = ops.size -> (∃ u : List Nat, u.length <= fuel /\ ∀ i, i < ops.size -> ¬ Lis listed i -> i ∈ u) -> J P ops S I sb fr k0 m0 β0 w0 q β a w (Lis listed) -> wpAnyIn F n P .any ops Q fuel listed a w
 | 0, listed, q, β, a, w, hs, hc, hJ => by
  have hall : ∀ i, i < ops.size -> Lis listed i := fun i hi => by
   obtain ⟨u, hu, hcv⟩ := hc
   have hu := List.eq_nil_of_length_eq_zero (Nat.le_zero.1 hu)
   subst hu
   exact Classical.byContradiction fun k => absurd (hcv i hi k) (by simp)
  have hf := hJ.fin hP hall
  refine ⟨?_, hQ _ _ _ hf.1 hf.2⟩
  cases hr : Region.ready .any ops listed with
  | nil => rfl
  | cons i r =>
   exfalso
   have hm : i ∈ Region.ready .any ops listed := by rw [hr]; exact List.mem_cons_self
   obtain ⟨h0, o, ho, _⟩ := mem_ready.1 hm
   have hi : i < ops.size := (Array.getElem?_eq_some_iff.1 ho).1
   have := hall i hi
   have h1 : i < listed.size := by omega
   unfold Lis at this
   simp only [Array.getD, h1, dif_pos] at this h0
   rw [this] at h0; cases h0
 | fuel + 1, listed, q, β, a, w, hs, hc, hJ => by
  refine ⟨fun hr => ?_, fun j hj => ?_⟩
  ·have hf := hJ.fin hP (ready_none hP.ok hs hr)
   exact hQ _ _ _ hf.1 hf.2
  ·obtain ⟨h0, o, ho, hpre⟩ := mem_ready.1 hj
   have hjn : j < ops.size := (Array.getElem?_eq_some_iff.1 ho).1
   have h1 : j < listed.size := by omega
   have hnj : ¬ Lis listed j := by
    unfold Lis
    simp only [Array.getD, h1, dif_pos] at h0 ⊢
    rw [h0]; exact fun h => by cases h
   have hpr : ∀ i, Pr ops i j -> Lis listed i := by
    intro i hi
    -- the last edge of the chain
    have : ∀ {i k}, Pr ops i k -> k = j -> Lis listed i := by
     intro i k hik
     induction hik with
     | edge g1 g2 g3 => intro hkj; subst hkj; rw [ho] at g1; cases g1; exact hpre _ g2 g3
     | trans g1 _ _ ih2 => intro hkj; exact hJ.dc _ _ g1 (ih2 hkj)
    exact this hi rfl
   have hcount : ∃ u : List Nat, u.length <= fuel /\ ∀ i, i < ops.size -> ¬ Lis (listed.setIfInBounds j true) i -> i ∈ u := cover_step hc h1 hjn hnj
   have := hJ.step (F := F) (n := n) (L' := Lis (listed.setIfInBounds j true)) (Q := Q) (K := wpAnyIn F n P .any ops Q fuel (listed.setIfInBounds j true)) hF hN hcall hP ho hpr hnj (lis_set h1) hr0 (hJ.knows hP) fun q' β' a' w' hJ' =>
    any_sound hF hN hcall hP hr0 hQ fuel _ q' β' a' w' (by simpa using hs) hcount hJ'
   unfold wpOpIn
   rw [ho]
   simp only
   split
   ·rename_i hw; rw [if_pos hw] at this; exact this
   ·rename_i hw; rw [if_neg hw] at this; exact this
theorem runDraw_any {F : Fence} {n : Nat} (hF : Open F) (hN : Named P) (hcall : CallSound P call) {st st' : St} (hs : runDraw P call ops st = some st') (hR : Rst m0 β st a w) {Q : Exit -> Act -> World -> Prop}
  (hQ : ∀ a' w' β', Rst m0 β' st' a' w' -> Evo β st.h w β' st'.h w' -> Q .normal a' w') : wpAnyIn F n P .any ops Q ops.size (Array.replicate ops.size false) a { w with drawn := w.drawn + 1 } := by
 unfold runDraw at hs
 split at hs
 case isFalse => cases hs
 rename_i hok
 split at hs
 case h_2 => cases hs
 rename_i s infs hgo
 split at hs
 case isFalse => cases hs
 rename_i hc
 cases hs
 simp only [Bool.and_eq_true, decide_eq_true_eq] at hc
 obtain ⟨⟨c1, c2⟩, c3⟩ := hc
 obtain ⟨S, I, s0, s1, s2, s3⟩ := drawGo_tra _ hgo
 subst s0
 simp only [Array.length_toList] at s1 s2 s3
 subst s1
 have hs' : ∀ k, k < ops.size -> ∃ o, ops[k]? = some o /\ draw1 P call ops o (S k) = some (S (k + 1), I k) := fun k hk => by
  obtain ⟨_, o, h1, h2⟩ := s3 k hk
  exact ⟨o, by rw [<-Array.getElem?_toList]; exact h1, h2⟩
 have hR0 : Rst m0 β (S 0) a { w with drawn := w.drawn + 1 } := ⟨hR.hr.heap rfl, hR.hw, hR.he, hR.sz, ⟨let ⟨bs, b1, b2, b3⟩ := hR.hd.ex; ⟨bs, b1, b2, fun b hb => ⟨(b3 b hb).1, ⟨(b3 b hb).2.lt, (b3 b hb).2.at_, (b3 b hb).2.no⟩⟩⟩⟩⟩
 have T := tra_of hN hcall c3 c2 hs' hR0
 obtain ⟨sb, fr, k0, hP⟩ := plan_of T hok s2 (fun k hk => (s3 k hk).1) c1
 refine any_sound hF hN hcall hP hR0.hr (fun a' w' β' h1 h2 => hQ a' w' β' h1 { sub := h2.sub, new := h2.new, all := h2.all, blk := h2.blk, size := h2.size, os := h2.os, tape := h2.tape, output := h2.output, frame := h2.frame, next := h2.next, wr := h2.wr, root := h2.root, ro := h2.ro, objs := h2.objs }) ops.size _ k0 β a _ (by simp) ⟨List.range ops.size, by simp, fun i hi _ => List.mem_range.2 hi⟩ (J.init hP hR0 fun i => ?_)
 unfold Lis
 simp only [Array.getD, Array.size_replicate]
 split <;> simp
theorem runDraw_sound {F : Fence} {n : Nat} (hF : Open F) (hN : Named P) (hmix : P.follows .mixedOrders = true) (hcall : CallSound P call) {st st' : St} (hs : runDraw P call ops st = some st') (hR : Rst m0 β st a w) {id : Nat} {Q : Exit -> Act -> World -> Prop}
  (hQ : ∀ a' w' β', Rst m0 β' st' a' w' -> Evo β st.h w β' st'.h w' -> Q .normal a' w') : (Code.region id ops true).wpIn F n P Q a w :=
 wpIn_region_any hmix (runDraw_any hF hN hcall hs hR hQ)
structure PermOk (ops ops' : Array Oper) (l : List Nat) : Prop where
 size : ops'.size = ops.size
 len : l.length = ops.size
 op : ∀ i, i < ops.size -> idxP l i < ops.size /\ ∃ o, ops[i]? = some o /\ ops'[idxP l i]? = some (renO l o)
 inj : ∀ i j, i < ops.size -> j < ops.size -> idxP l i = idxP l j -> i = j
 out : ∀ i, ops.size <= i -> ops.size <= idxP l i
 onto : ∀ p, p < ops.size -> ∃ i, i < ops.size /\ idxP l i = p
theorem permL_get {ops : Array Oper} {m : List Nat} : ∀ {l : List Nat}, (∀ i ∈ l, i < ops.size) -> ∀ p : Nat, (l.filterMap fun i => (ops[i]?).map (renO m))[p]? = (l[p]?).bind fun i => (ops[i]?).map (renO m)
 | [], _, p => by simp
 | x :: r, h, p => by
  have hx : x < ops.size := h x (List.mem_cons_self ..)
  have : ops[x]? = some ops[x] := Array.getElem?_eq_getElem hx
  rw [List.filterMap_cons]
  simp only [this, Option.map_some]
  cases p with
  | zero => simp [this]
  | succ p =>
   rw [List.getElem?_cons_succ, List.getElem?_cons_succ]
   exact permL_get (fun i hi => h i (List.mem_cons_of_mem _ hi)) p
theorem permO_ok {id : Nat} {ops : Array Oper} : permO id ops = ops \/ ∃ l, PermOk ops (permO id ops) l := by
 unfold permO
 split
 case h_2 => exact .inl rfl
 ·split
  case isFalse => exact .inl rfl
  rename_i q _ hp
  right
  obtain ⟨_, _, l⟩ := q
  simp only at hp ⊢
  simp only [Bool.and_eq_true, decide_eq_true_eq] at hp
  obtain ⟨hp, hsz⟩ := hp
  unfold isPerm at hp
  simp only [Bool.and_eq_true, beq_iff_eq, List.all_eq_true, List.mem_range, decide_eq_true_eq] at hp
  obtain ⟨⟨h1, h2⟩, h3⟩ := hp
  have hmem : ∀ i ∈ l, i < ops.size := by
   intro i hi
   obtain ⟨p, hp, rfl⟩ := List.mem_iff_getElem.1 hi
   have := h3 p ow
   rw [List.getElem?_eq_getElem hp] at this
   simp only [Bool.and_eq_true, decide_eq_true_eq] at this
   exact this.1
  refine ⟨l, hsz, h1, fun i hi => ⟨(h2 i hi).1, _, Array.getElem?_eq_getElem hi, ?_⟩, fun i j hi hj e => ?_, fun i hi => ?_, fun p hp => ?_⟩
  ·show (permL ops l)[idxP l i]? = _
   unfold permL
   have := permL_get (ops := ops) (m := l) hmem (idxP l i)
   rw [(h2 i hi).2] at this
   simp only [Option.bind_some, Array.getElem?_eq_getElem hi, Option.map_some] at this
   simpa using this
  ·have a := (h2 i hi).2
   have b := (h2 j hj).2
   rw [e, b] at a
   exact (Option.some.inj a).symm
  ·unfold idxP
   split
   ·rename_i p hp
    obtain ⟨q1, q2, _⟩ := List.findIdx?_eq_some_iff_getElem.1 hp
    have := hmem _ (List.getElem_mem q1)
    simp at q2
    omega
   ·omega
  ·have := h3 p hp
   split at this
   ·rename_i i hi
    simp only [Bool.and_eq_true, decide_eq_true_eq, beq_iff_eq] at this
    exact ⟨i, this.1, this.2⟩
   ·cases this
theorem ren_wp {F : Fence} {n : Nat} {l : List Nat} {o : Oper} {K : Act -> World -> Prop} {Q : Exit -> Act -> World -> Prop} (h : (renO l o).wpIn F n P a w K Q) : o.wpIn F n P a w K Q := by
 obtain ⟨dst, op, ty, pos, after, guard⟩ := o
 exact h
theorem perm_any {F : Fence} {n : Nat} {ops ops' : Array Oper} {l : List Nat} (hp : PermOk ops ops' l) {Q : Exit -> Act -> World -> Prop} :
  ∀ (fuel : Nat) (listed listed' : Array Bool) (a : Act) (w : World), listed.size = ops.size -> listed'.size = ops.size -> (∀ i, i < ops.size -> listed.getD i false = listed'.getD (idxP l i) false) →
   wpAnyIn F n P .any ops' Q fuel listed' a w -> wpAnyIn F n P .any ops Q fuel listed a w := by
 have out : ∀ {x : Array Bool} {i : Nat}, x.size <= i -> x.getD i false = false := by
  intro x i hi
  simp only [Array.getD]
  rw [dif_neg ow]
 have unl : ∀ {x : Array Bool} {i : Nat}, i < x.size -> (x.getD i true = false ↔ x.getD i false = false) := by
  intro x i hi
  simp only [Array.getD, dif_pos hi]
 have rdy : ∀ {listed listed' : Array Bool}, listed.size = ops.size -> listed'.size = ops.size -> (∀ i, i < ops.size -> listed.getD i false = listed'.getD (idxP l i) false) →
   ∀ {i}, i < ops.size -> (i ∈ Region.ready .any ops listed ↔ idxP l i ∈ Region.ready .any ops' listed') := by
  intro listed listed' s1 s2 hl i hi
  obtain ⟨hpi, o, ho, ho'⟩ := hp.op i hi
  have hall : ∀ k, listed.getD k false = listed'.getD (idxP l k) false := by
   intro k
   by_cases hk : k < ops.size
   ·exact hl k hk
   ·rw [out ow, out (by have := hp.out k ow; omega)]
  rw [mem_ready, mem_ready, unl ow, unl ow, <-hl i hi]
  constructor
  ·rintro ⟨h1, o2, h2, h3⟩
   rw [ho] at h2; cases h2
   refine ⟨h1, _, ho', fun e he hb => ?_⟩
   simp only [renO, Array.mem_map] at he
   obtain ⟨e0, k1, rfl⟩ := he
   rw [<-hall]
   exact h3 e0 k1 hb
  ·rintro ⟨h1, o2, h2, h3⟩
   rw [ho'] at h2; cases h2
   refine ⟨h1, _, ho, fun e he hb => ?_⟩
   rw [hall]
   exact h3 { e with on := idxP l e.on } (by simp only [renO, Array.mem_map]; exact ⟨e, he, rfl⟩) hb
 have nilr : ∀ {listed listed' : Array Bool}, listed.size = ops.size -> listed'.size = ops.size -> (∀ i, i < ops.size -> listed.getD i false = listed'.getD (idxP l i) false) →
   (Region.ready .any ops listed = [] -> Region.ready .any ops' listed' = []) /\ (Region.ready .any ops' listed' = [] -> Region.ready .any ops listed = []) := by
  intro listed listed' s1 s2 hl
  constructor
  ·intro h
   refine List.eq_nil_iff_forall_not_mem.2 fun p hp' => ?_
   have hps : p < ops.size := by
    obtain ⟨_, o, ho, _⟩ := mem_ready.1 hp'
    have := (Array.getElem?_eq_some_iff.1 ho).1
    rw [hp.size] at this; exact this
   obtain ⟨i, hi, rfl⟩ := hp.onto p hps
   have := (rdy s1 s2 hl hi).2 hp'
   rw [h] at this
   cases this
  ·intro h
   refine List.eq_nil_iff_forall_not_mem.2 fun i hi' => ?_
   have his : i < ops.size := by
    obtain ⟨_, o, ho, _⟩ := mem_ready.1 hi'
    exact (Array.getElem?_eq_some_iff.1 ho).1
   have := (rdy s1 s2 hl his).1 hi'
   rw [h] at this
   cases this
 intro fuel
 induction fuel with
 | zero =>
  intro listed listed' a w s1 s2 hl h
  exact ⟨(nilr s1 s2 hl).2 h.1, h.2⟩
 | succ fuel ih =>
  intro listed listed' a w s1 s2 hl h
  refine ⟨fun hr => h.1 ((nilr s1 s2 hl).1 hr), fun i hi' => ?_⟩
  have hi : i < ops.size := by
   obtain ⟨_, o, ho, _⟩ := mem_ready.1 hi'
   exact (Array.getElem?_eq_some_iff.1 ho).1
  have hstep := h.2 _ ((rdy s1 s2 hl hi).1 hi')
  obtain ⟨hpi, o, ho, ho'⟩ := hp.op i hi
  have hnext : ∀ a w, wpAnyIn F n P .any ops' Q fuel (listed'.setIfInBounds (idxP l i) true) a w -> wpAnyIn F n P .any ops Q fuel (listed.setIfInBounds i true) a w := by
   intro a w hk
   refine ih _ _ a w (by simpa using s1) (by simpa using s2) (fun k hk => ?_) hk
   by_cases hik : i = k
   ·subst hik
    rw [Array.getD_eq_getD_getElem?, Array.getD_eq_getD_getElem?, Array.getElem?_setIfInBounds_self_of_lt ow, Array.getElem?_setIfInBounds_self_of_lt ow]
   ·have : idxP l i ≠ idxP l k := fun e => hik (hp.inj i k hi hk e)
    rw [getD_set_ne false hik, getD_set_ne false this]
    exact hl k hk
  have hy : ∀ g, yielded ops' a.tmps (idxP l g) = yielded ops a.tmps g := by
   intro g
   unfold yielded
   by_cases hg : g < ops.size
   ·obtain ⟨_, og, h1, h2⟩ := hp.op g hg
    rw [h1, h2]
    rfl
   ·rw [Array.getElem?_eq_none (by rw [hp.size]; have := hp.out g ow; omega), Array.getElem?_eq_none ow]
  have hw : Region.wanted (renO l o) (yielded ops' a.tmps) = Region.wanted o (yielded ops a.tmps) := by
   unfold Region.wanted renO
   cases hg : o.guard with
   | none => rfl
   | some g => simp only [Option.map_some, hy]
  unfold wpOpIn at hstep ⊢
  rw [ho'] at hstep
  rw [ho]
  simp only [hw] at hstep ⊢
  split at hstep
  ·rename_i hq
   rw [if_pos hq]
   exact Oper.wpIn_mono hnext (ren_wp hstep)
  ·rename_i hq
   rw [if_neg hq]
   exact ⟨hstep.1, hnext _ _ hstep.2⟩
theorem runDrawP_sound {F : Fence} {n : Nat} (hF : Open F) (hN : Named P) (hmix : P.follows .mixedOrders = true) (hcall : CallSound P call) {st st' : St} {pid : Nat} (hs : runDraw P call (permO pid ops) st = some st') (hR : Rst m0 β st a w) {id : Nat} {Q : Exit -> Act -> World -> Prop}
  (hQ : ∀ a' w' β', Rst m0 β' st' a' w' -> Evo β st.h w β' st'.h w' -> Q .normal a' w') : (Code.region id ops true).wpIn F n P Q a w := by
 rcases permO_ok (id := pid) (ops := ops) with h | ⟨l, hp⟩
 ·rw [h] at hs
  exact runDraw_sound hF hN hmix hcall hs hR hQ
 ·have hany := runDraw_any (F := F) (n := n) hF hN hcall hs hR hQ
  refine wpIn_region_any hmix ?_
  rw [hp.size] at hany
  refine perm_any hp ops.size _ _ a _ (by simp) (by simp) (fun i hi => ?_) hany
  have := (hp.op i hi).1
  simp [Array.getD, hi, this]
structure AfterEq (ops ops' : Array Oper) : Prop where
 size : ops'.size = ops.size
 op : ∀ (i : Nat) (o : Oper), ops[i]? = some o -> ∃ af, ops'[i]? = some { o with after := af }
theorem AfterEq.none {ops ops' : Array Oper} (h : AfterEq ops ops') {i : Nat} (hi : ops[i]? = none) : ops'[i]? = none := by
 rw [Array.getElem?_eq_none_iff] at hi ⊢
 rw [h.size]; exact hi
theorem AfterEq.yielded {ops ops' : Array Oper} (h : AfterEq ops ops') {tmps : Array Value} : yielded ops' tmps = yielded ops tmps := by
 funext g
 unfold Go.yielded
 cases hg : ops[g]? with
 | none => rw [h.none hg]
 | some o =>
  obtain ⟨af, e⟩ := h.op g o hg
  rw [e]
  rfl
theorem AfterEq.wp {F : Fence} {n : Nat} {ops ops' : Array Oper} (h : AfterEq ops ops') {i : Nat} {K : Act -> World -> Prop} {Q : Exit -> Act -> World -> Prop} (hw : wpOpIn F n P ops' Q i K a w) : wpOpIn F n P ops Q i K a w := by
 unfold wpOpIn at hw ⊢
 cases hi : ops[i]? with
 | none => rw [h.none hi] at hw; exact hw
 | some o =>
  obtain ⟨af, e⟩ := h.op i o hi
  rw [e, h.yielded] at hw
  obtain ⟨dst, op, ty, pos, after, guard⟩ := o
  exact hw
theorem runSplit_any {F : Fence} {n : Nat} {x y : Nat} {l : List Nat} (hF : Open F) (hN : Named P) (hcall : CallSound P call) {st st' : St} (hs : runSplit P call x y l ops st = some st') (hR : Rst m0 β st a w) {Q : Exit -> Act -> World -> Prop}
  (hQ : ∀ a' w' β', Rst m0 β' st' a' w' -> Evo β st.h w β' st'.h w' -> Q .normal a' w') : wpAnyIn F n P .any ops Q ops.size (Array.replicate ops.size false) a { w with drawn := w.drawn + 1 } := by
 unfold runSplit at hs
 cases hs
theorem runAny_sound {F : Fence} {n : Nat} (hF : Open F) (hN : Named P) (hmix : P.follows .mixedOrders = true) (hcall : CallSound P call) {st st' : St} {pid : Nat} (hs : runAny P call pid ops st = some st') (hR : Rst m0 β st a w) {id : Nat} {Q : Exit -> Act -> World -> Prop}
  (hQ : ∀ a' w' β', Rst m0 β' st' a' w' -> Evo β st.h w β' st'.h w' -> Q .normal a' w') : (Code.region id ops true).wpIn F n P Q a w := by
 have hany : wpAnyIn F n P .any (permO pid ops) Q (permO pid ops).size (Array.replicate (permO pid ops).size false) a { w with drawn := w.drawn + 1 } := by
  unfold runAny at hs
  split at hs
  ·exact runSplit_any hF hN hcall hs hR hQ
  ·exact runDraw_any hF hN hcall hs hR hQ
 rcases permO_ok (id := pid) (ops := ops) with h | ⟨l, hp⟩
 ·rw [h] at hany
  exact wpIn_region_any hmix hany
 ·refine wpIn_region_any hmix ?_
  rw [hp.size] at hany
  refine perm_any hp ops.size _ _ a _ (by simp) (by simp) (fun i hi => ?_) hany
  have := (hp.op i hi).1
  simp [Array.getD, hi, this]
end
end Go.AM
namespace Go.AM
def Ex.to : Ex -> Exit
 | .normal => .normal
 | .exit id => .exit id
 | .ret => .ret
section
variable {P : Program} {β β' : Ren} {h h' : AH} {w w' : World} {a : Act}
theorem HR.kept (hr : HR β h w) (hs : w.heap.size <= w'.heap.size) (hk : ∀ id x, β id = some x -> w'.heap[x.g]? = w.heap[x.g]?) (hg : ∀ g, (gCells g).isSome = true -> w'.heap[g]? = w.heap[g]?) : HR β h w' where
 dom := fun id x hx => ⟨(hr.dom id x hx).1, Nat.lt_of_lt_of_le (hr.dom id x hx).2 hs⟩
 row := fun id x f hx hf => (hr.row id x f hx hf).mono (.refl _) (hk id x hx)
 map := fun id x es ck hx hm => let ⟨es', a, b⟩ := hr.map id x es ck hx hm; ⟨es', (hk id x hx).trans a, b⟩
 loop := fun id x r hx hm => let ⟨r', a, b⟩ := hr.loop id x r hx hm; ⟨r', (hk id x hx).trans a, b⟩
 disj := hr.disj
 more := hr.more.step (fun id x _ _ _ _ a b => ⟨b, hk id x a⟩) hg (fun _ _ _ => rfl)
theorem alloc_kept (hr : HR β h w) (o : Obj) : HR β h (w.alloc o) /\ Evo β h w β h (w.alloc o) := by
 have hs : w.heap.size <= (w.alloc o).heap.size := by simp
 refine ⟨hr.kept hs (fun id x hx => heap_old (hr.dom id x hx).2) (fun g hg => heap_old (hr.more.glob_lt hg)), ?_⟩
 exact {
  sub := .refl _
  new := fun _ _ a b => by rw [a] at b; cases b
  all := fun id a b => absurd b (Nat.not_lt.2 a)
  blk := fun _ _ a b => by rw [a] at b; cases b
  size := hs
  os := rfl
  tape := rfl
  output := rfl
  frame := fun b hb => .inl (heap_old hb)
  next := Nat.le_refl _
  wr := Nat.le_refl _
  root := fun _ _ => rfl
  ro := fun _ _ => rfl
  objs := fun _ _ _ => rfl }
theorem put_kept {β0 : Ren} {h0 : AH} {w0 : World} (hr : HR β h w) (hE : Evo β0 h0 w0 β h w) {b : Nat} (hb : w0.heap.size <= b) (hn : ∀ id x, β id = some x -> x.g ≠ b) (hnc : ∀ c el fz, w.heap[b]? ≠ some (.cells c el fz)) (o : Obj) :
  HR β h (w.putObj b o) /\ Evo β0 h0 w0 β h (w.putObj b o) := by
 refine ⟨hr.kept (by simp) (fun id x hx => World.putObj_heap_other (hn id x hx)) (fun g hg => World.putObj_heap_other fun e => ?_), ?_⟩
 ·subst e
  obtain ⟨c, hc⟩ := Option.isSome_iff_exists.1 hg
  obtain ⟨el, fz, h1⟩ := hr.more.glob _ c hc
  exact hnc _ _ _ h1
 exact { hE with
  size := by simpa using hE.size
  os := hE.os
  tape := hE.tape
  output := hE.output
  frame := fun c hc => by
   rw [World.putObj_heap_other (show c ≠ b by omega)]
   exact hE.frame c hc }
theorem newLoop_sound (hr : HR β h w) (hw : Wf h) (r : ALoop) (r' : Loop) (hl : LoopR β r r') :
  HR (upd β h.next ⟨w.heap.size, 0, 0, 0⟩) { h with t := h.t.set h.next (.loop r), next := h.next + 1 } (w.alloc (.loop r')) ∧
  Wf { h with t := h.t.set h.next (.loop r), next := h.next + 1 } /\ Evo β h w (upd β h.next ⟨w.heap.size, 0, 0, 0⟩) { h with t := h.t.set h.next (.loop r), next := h.next + 1 } (w.alloc (.loop r')) := by
 have k := hr_new hr hw (.loop r) (.loop r') 0 (fun d c l ro n0 q => by cases q) (fun es ck q => by cases q) (fun r q => by cases q; exact ⟨_, rfl, hl⟩) (fun m s e l q => by cases q) (fun r lo n q => by cases q)
 exact ⟨k.1, wf_newObj hw rfl, k.2⟩
theorem setLoop_sound (hr : HR β h w) (hw : Wf h) {l : Nat} {x : Bx} {r r2 : ALoop} {r2' : Loop} (hx : β l = some x) (hm : h.t.get l = some (.loop r)) (hl : LoopR β r2 r2') :
  HR β { h with t := h.t.set l (.loop r2), wr := min h.wr l } (w.putObj x.g (.loop r2')) /\ Wf { h with t := h.t.set l (.loop r2), wr := min h.wr l } ∧
  Evo β h w β { h with t := h.t.set l (.loop r2), wr := min h.wr l } (w.putObj x.g (.loop r2')) :=
 hr_setObj hr hw hx hm rfl rfl (fun _ _ e => by cases e) (fun r e => by cases e; exact ⟨_, World.putObj_heap_same (hr.dom _ _ hx).2, hl⟩) (fun m s e l q => by cases q)
  (fun b hb => World.putObj_heap_other hb) (by simp) rfl rfl rfl
theorem setPs_sound {sz : Nat} : ∀ (ps : List Tmp) (vs vs' : List Value) (e e' : Tr Value) (tmps : Array Value), setPs sz ps vs e = some e' -> VRl β vs vs' -> EnvW β e tmps -> tmps.size = sz →
  vs.length = ps.length /\ EnvW β e' ((ps.zip vs').foldl (fun tmps (p : Tmp × Value) => tmps.setIfInBounds p.1 p.2) tmps) /\ ((ps.zip vs').foldl (fun tmps (p : Tmp × Value) => tmps.setIfInBounds p.1 p.2) tmps).size = sz
 | [], [], vs', e, e', tmps, hs, hv, he, hz => by
  cases hs
  exact ⟨rfl, by simpa using he, by simpa using hz⟩
 | t :: ps, v :: vs, [], e, e', tmps, hs, hv, he, hz => by have := hv.1; simp at this
 | t :: ps, v :: vs, v' :: vs', e, e', tmps, hs, hv, he, hz => by
  simp only [setPs] at hs
  split at hs
  ·rename_i ht
   have h0 : VR β v v' := hv.2 0 v v' rfl rfl
   have h1 : VRl β vs vs' := ⟨by have := hv.1; simpa using this, fun i u u' a b => hv.2 (i + 1) u u' (by simpa using a) (by simpa using b)⟩
   have := setPs_sound ps vs vs' _ e' (tmps.setIfInBounds t v') hs h1 (he.set (show t < tmps.size by rw [hz]; exact ht) h0) (by simpa using hz)
   refine ⟨by simp [this.1], ?_, ?_⟩
   ·simpa using this.2.1
   ·simpa using this.2.2
  ·cases hs
 | [], v :: vs, _, e, e', tmps, hs, _, _, _ => by cases hs
 | t :: ps, [], _, e, e', tmps, hs, _, _, _ => by cases hs
def resM (tmps : Array Value) : ResultVar -> Sem Value
 | .tmp t => pure (tmps.getD t undef)
 | .cell b t => do loadVar t (← asAddr (tmps.getD b undef))
theorem resA_sound {st : St} {tmps : Array Value} (hr : HR β st.h w) (hw : Wf st.h) (he : EnvW β st.e tmps) : ∀ (l : List ResultVar) {vs : List Value}, resA P st l = some vs →
  ∃ vs', (l.mapM (resM tmps)).run P w = .ok vs' w /\ VRl β vs vs'
 | [], vs, h => by
  simp only [resA, Option.some.injEq] at h
  subst h
  exact ⟨[], rfl, .nil⟩
 | .tmp t :: r, vs, h => by
  simp only [resA] at h
  split at h
  case h_2 => cases h
  rename_i v us hv hu
  cases h
  obtain ⟨us', k1, k2⟩ := resA_sound hr hw he r hu
  obtain ⟨v', m1, m2⟩ := he _ _ hv
  refine ⟨v' :: us', ?_, .cons m2 k2⟩
  have hg : tmps.getD t undef = v' := by simp [m1]
  rw [List.mapM_cons]
  simp only [Sem.run_bind, Sem.run_pure, Result.andThen_ok, k1, resM, hg]
 | .cell b t :: r, vs, h => by
  simp only [resA] at h
  split at h
  case h_2 => cases h
  rename_i p us hp hu
  obtain ⟨v, h1, h2⟩ := map_inv' h
  cases h2
  obtain ⟨us', k1, k2⟩ := resA_sound hr hw he r hu
  obtain ⟨p', m1, m2⟩ := he _ _ hp
  obtain ⟨v', a', q1, q2, q3⟩ := loadV_sound hr hw h1 m2
  refine ⟨v' :: us', ?_, .cons q3 k2⟩
  have hg : tmps.getD b undef = .pointer (some a') := by rw [<-q1]; simp [m1]
  rw [List.mapM_cons]
  simp only [Sem.run_bind, Sem.run_pure, Result.andThen_ok, k1, resM, hg, asAddr, q2]
theorem one_sound {vs vs' : List Value} (hv : VRl β vs vs') : VR β (one vs) (if h : (⟨vs'⟩ : Array Value).size = 1 then (⟨vs'⟩ : Array Value)[0] else .tuple ⟨vs'⟩) := by
 match vs, vs', hv.1 with
 | [], [], _ => exact .tuple rfl fun i v v' h => by simp at h
 | [v], [v'], _ => exact hv.2 0 v v' rfl rfl
 | u :: v :: r, u' :: v' :: r', _ =>
  have : ¬ (⟨u' :: v' :: r'⟩ : Array Value).size = 1 := by simp
  rw [dif_neg this]
  exact hv.toTup
theorem results_sound {fn : Func} {st : St} {tmps : Array Value} (hr : HR β st.h w) (hw : Wf st.h) (he : EnvW β st.e tmps) {vs : List Value} (h : resA P st fn.results.toList = some vs) : ∃ v', (results fn tmps).run P w = .ok v' w /\ VR β (one vs) v' := by
 obtain ⟨vs', k1, k2⟩ := resA_sound hr hw he _ h
 refine ⟨_, ?_, one_sound k2⟩
 have e : results fn tmps = (fn.results.mapM (resM tmps) >>= fun vs => pure (if h : vs.size = 1 then vs[0] else .tuple vs)) := rfl
 rw [e, Array.mapM_eq_mapM_toList]
 simp only [Sem.run_bind, map_eq_pure_bind, k1, Result.andThen_ok, Sem.run_pure]
theorem init_sound {args args' : List Value} (hv : VRl β args args') (m : Nat) :
  EnvW β (Tr.ofList args 0 .leaf) ((⟨args'⟩ : Array Value) ++ Array.replicate (m - (⟨args'⟩ : Array Value).size) undef) /\ ((⟨args'⟩ : Array Value) ++ Array.replicate (m - (⟨args'⟩ : Array Value).size) undef).size = max args.length m := by
 refine ⟨fun t v ht => ?_, by simp [hv.1]; omega⟩
 rw [Tr.get_ofList] at ht
 split at ht
 ·rename_i hq
  have h1 : t < args'.length := by rw [<-hv.1]; omega
  refine ⟨args'[t], ?_, hv.2 t v _ (by simpa using ht) (List.getElem?_eq_getElem h1)⟩
  rw [Array.getElem?_append_left (by simpa using h1)]
  simp [h1]
 ·cases ht
theorem leaves_sound {F : Fence} {n : Nat} {fn : Func} {tmps : Array Value} {R : Ending -> World -> Prop} {β0 : Ren} {h0 : AH} {w0 : World} :
  ∀ (bs : List Nat) (w : World), bs.Nodup -> (∀ b ∈ bs, w0.heap.size <= b /\ Priv β w b) -> HR β h w -> Evo β0 h0 w0 β h w →
   (∀ w', HR β h w' -> Evo β0 h0 w0 β h w' -> ∃ v, (results fn tmps).run P w' = .ok v w' /\ R (.returned v) w') -> LeavesInM F n P fn tmps R (marksOf bs) .returning w
 | [], w, _, _, hr, hE, hR => hR w hr hE
 | b :: bs, w, hn, hp, hr, hE, hR => by
  obtain ⟨hb, hq⟩ := hp b (List.mem_cons_self)
  obtain ⟨k1, k2⟩ := put_kept hr hE hb hq.no (fun c el fz q => by rw [hq.at_] at q; cases q) (.deferred none)
  refine ⟨by simp, .inl ⟨b, w.putObj b (.deferred none), rfl, run_takeDeferred hq.at_, ?_⟩⟩
  refine leaves_sound bs _ (List.nodup_cons.1 hn).2 (fun c hc => ?_) k1 k2 hR
  obtain ⟨m1, m2⟩ := hp c (List.mem_cons_of_mem _ hc)
  have hne : c ≠ b := fun e => (List.nodup_cons.1 hn).1 (e ▸ hc)
  exact ⟨m1, by simpa using m2.lt, by rw [World.putObj_heap_other hne]; exact m2.at_, m2.no⟩
end
end Go.AM
namespace Go.AM
section
variable {P : Program} {β β' : Ren} {h h' : AH} {w w' : World} {a : Act}
def ExecSound (P : Program) (call : Call') (rd : Bool) (n : Nat) : Prop :=
 ∀ (F : Fence) (m m0 : Nat) (c : Code) (st : St) (ex : Ex) (st' : St) (β : Ren) (a : Act) (w : World) (Q : Exit -> Act -> World -> Prop), Open F -> (rd = false -> F.round = none) -> m0 <= w.heap.size →
  exec P call rd n c st = some (ex, st') -> Rst m0 β st a w →
  (∀ a' w' β', Rst m0 β' st' a' w' -> Evo β st.h w β' st'.h w' -> Q ex.to a' w') -> c.wpIn F m P Q a w
def LoopSound (P : Program) (call : Call') (rd : Bool) (n : Nat) : Prop :=
 ∀ (F : Fence) (m m0 : Nat) (b : Code) (st : St) (ex : Ex) (st' : St) (β : Ren) (a : Act) (w : World) (Q : Exit -> Act -> World -> Prop), Open F -> (rd = false -> F.round = none) -> m0 <= w.heap.size →
  exec P call rd n (.loop b) st = some (ex, st') -> Rst m0 β st a w →
  (∀ a' w' β', Rst m0 β' st' a' w' -> Evo β st.h w β' st'.h w' -> Q ex.to a' w') -> Code.roundsIn F m P b Q n a w
theorem exec_loop {call : Call'} {rd : Bool} {n : Nat} (hA : ExecSound P call rd n) (hB : LoopSound P call rd n) : LoopSound P call rd (n + 1) := by
 intro F m m0 b st ex st' β a w Q hF hro hm he hR hQ
 rw [roundsIn_succ]
 simp only [exec] at he
 cases h1 : exec P call rd n b st with
 | none => rw [h1] at he; cases he
 | some r =>
  obtain ⟨x, s⟩ := r
  rw [h1] at he
  refine hA F m m0 b st x s β a w _ hF hro hm h1 hR fun a1 w1 β1 hR1 hE1 => ?_
  cases x with
  | normal =>
   exact hB F m m0 b s ex st' β1 a1 w1 Q hF hro (Nat.le_trans hm hE1.size) he hR1 fun a2 w2 β2 hR2 hE2 => hQ a2 w2 β2 hR2 (hE1.trans hR.hr hE2)
  | exit id => cases he; exact hQ a1 w1 β1 hR1 hE1
  | ret => cases he; exact hQ a1 w1 β1 hR1 hE1
theorem range_sound {call : Call'} {n : Nat} {F : Fence} {m m0 : Nat} {g : Operand} {ps : Array Tmp} {assign body : Code} {st : St} {ex : Ex} {st' : St} {Q : Exit -> Act -> World -> Prop} (hF : Open F) (hro : F.round = none) (hm : m0 <= w.heap.size)
  (hN : Named P) (hcall : CallSound P call) (hA : ExecSound P call false n) (he : exec P call false (n + 1) (.rangeFunc g ps assign body) st = some (ex, st')) (hR : Rst m0 β st a w)
  (hQ : ∀ a' w' β', Rst m0 β' st' a' w' -> Evo β st.h w β' st'.h w' -> Q ex.to a' w') : (Code.rangeFunc g ps assign body).wpIn F m P Q a w := by
 simp only [exec, Bool.false_eq_true, if_false] at he
 split at he
 case h_2 => cases he
 rename_i f first cap hg
 split at he
 case h_2 => cases he
 rename_i v2 h2 hc
 split at he
 case h_2 => cases he
 rename_i r hl
 have hfn := ev_sound hR.he hg
 generalize heq : a.eval g = fv at hfn
 cases hfn with
 | free _ hf => simp [free0] at hf
 | func m1 m2 m3 m4 =>
 rename_i first' cap'
 obtain ⟨fn0, q1, q2⟩ := hcall.has _ _ _ _ hc
 refine wpIn_rangeFunc fun fn hfn => ?_
 -- the two blocks
 obtain ⟨a1, a2⟩ := alloc_kept hR.hr (.deferred (some []))
 have hsz : (w.alloc (.deferred (some []))).heap.size = w.heap.size + 1 := by simp
 obtain ⟨b1, b2, b3⟩ := newLoop_sound a1 hR.hw ⟨.ready, none, st.e, st.sz, ps, assign, body⟩ { state := .ready, pending := none, fn, tmps := a.tmps, params := ps, assign, body, defers := w.heap.size }
  ⟨rfl, rfl, hR.he, hR.sz, rfl, rfl, rfl⟩
 have hup : upd β st.h.next ⟨(w.alloc (.deferred (some []))).heap.size, 0, 0, 0⟩ st.h.next = some ⟨w.heap.size + 1, 0, 0, 0⟩ := by rw [upd_same, hsz]
 have hargs : VRl (upd β st.h.next ⟨(w.alloc (.deferred (some []))).heap.size, 0, 0, 0⟩) (first.toList ++ [.func (.yield st.h.next) #[] #[]] ++ cap.toList) (first'.toList ++ [.func (.yield (w.heap.size + 1)) #[] #[]] ++ cap'.toList) := by
  have k1 : VRl β first.toList first'.toList := ⟨by simpa using m1, fun i u u' x y => m2 i u u' (by simpa using x) (by simpa using y)⟩
  have k2 : VRl β cap.toList cap'.toList := ⟨by simpa using m3, fun i u u' x y => m4 i u u' (by simpa using x) (by simpa using y)⟩
  exact ((k1.mono b3.sub).append (.cons (.yield hup) .nil)).append (k2.mono b3.sub)
 have hmeet := hcall.meets _ _ _ _ _ hc F (m - 1) _ _ _ hF b1 b2 hargs
 simp only at hmeet
 refine ⟨w.heap.size + 1, [{ target := .collected w.heap.size, args := #[] }], ((w.alloc (.deferred (some []))).alloc (.loop { state := .ready, pending := none, fn, tmps := a.tmps, params := ps, assign, body, defers := w.heap.size })), { target := .fn (.func f) cap', args := first' ++ #[.func (.yield (w.heap.size + 1)) #[] #[]] }, ((w.alloc (.deferred (some []))).alloc (.loop { state := .ready, pending := none, fn, tmps := a.tmps, params := ps, assign, body, defers := w.heap.size })), f, (first' ++ #[.func (.yield (w.heap.size + 1)) #[] #[]] ++ cap'), ((w.alloc (.deferred (some []))).alloc (.loop { state := .ready, pending := none, fn, tmps := a.tmps, params := ps, assign, body, defers := w.heap.size })), ?_, ?_, fun f' _ => hF.fn f', ?_, hF.deep, ?_⟩
 ·rw [hro]; exact run_enterLoop_outer fn a.tmps ps assign body
 ·have hce : a.eval (.const (.func (.yield (w.heap.size + 1)) #[] #[])) = .func (.yield (w.heap.size + 1)) #[] #[] := rfl
  simp [resolve, heq, Deferred.ofValue, hce]
 ·exact callFunc_run hN q1 q2
 ·have e2 : (⟨first'.toList ++ [.func (.yield (w.heap.size + 1)) #[] #[]] ++ cap'.toList⟩ : Array Value) = first' ++ #[.func (.yield (w.heap.size + 1)) #[] #[]] ++ cap' := Array.ext' (by simp)
  rw [e2] at hmeet
  refine hmeet.mono fun en w3 hen => ?_
  obtain ⟨v', β2, rfl, p1, p2, p3, p4⟩ := hen
  have hx2 := p4.sub _ _ hup
  obtain ⟨r', s1, s2⟩ := p2.loop _ _ _ hx2 hl
  have hE12 := (a2.trans hR.hr b3).trans hR.hr p4
  split at he
  ·cases he
  ·rename_i hnb
   have hnb' : r'.state ≠ .busy := by rw [s2.state]; exact hnb
   obtain ⟨t1, t2, t3⟩ := setLoop_sound p2 p3 hx2 hl (r2 := { r with state := .exhausted }) (r2' := { r' with state := .exhausted }) ⟨rfl, s2.pending, s2.env, s2.sz, s2.params, s2.assign, s2.body⟩
   have hEall := hE12.trans hR.hr t3
   have hmk : Marks m0 β2 (w3.putObj (w.heap.size + 1) (.loop { r' with state := .exhausted })) ([{ target := .collected w.heap.size, args := #[] }] ++ a.defers) := by
    obtain ⟨bs, c1, c2, c3⟩ := (hR.hd.evo hEall).ex
    obtain ⟨bs0, d1, d2, d3⟩ := hR.hd.ex
    have hbs : bs = bs0 := by
     have := c1.symm.trans d1
     have hinj : ∀ (l l' : List Nat), marksOf l = marksOf l' -> l = l' := by
      intro l
      induction l with
      | nil => intro l' hq; cases l' with
       | nil => rfl
       | cons => cases hq
      | cons u l ih => intro l' hq; cases l' with
       | nil => cases hq
       | cons u' l' =>
        simp only [marksOf, List.map_cons, List.cons.injEq, Deferred.mk.injEq, and_true, Target.collected.injEq] at hq
        rw [hq.1, ih l' hq.2]
     exact hinj _ _ this
    subst hbs
    refine ⟨w.heap.size :: bs, by rw [c1]; rfl, List.nodup_cons.2 ⟨fun hin => ?_, c2⟩, fun b hb => ?_⟩
    ·have := (d3 _ hin).2.lt; omega
    ·rcases List.mem_cons.1 hb with rfl | hb
     ·refine ⟨hm, ?_⟩
      have pv : Priv (upd β st.h.next ⟨(w.alloc (.deferred (some []))).heap.size, 0, 0, 0⟩) ((w.alloc (.deferred (some []))).alloc (.loop { state := .ready, pending := none, fn, tmps := a.tmps, params := ps, assign, body, defers := w.heap.size })) w.heap.size := by
       refine ⟨by simp; omega, ?_, fun id x hx hg => ?_⟩
       ·rw [heap_old (by simp), heap_new]
       ·by_cases hid : id = st.h.next
        ·subst hid; rw [hup] at hx; cases hx; simp at hg
        ·rw [upd_ne _ _ hid] at hx
         have := (hR.hr.dom _ _ hx).2; omega
      exact (pv.evo p4).evo t3
     ·exact c3 b hb
   have hR' : Rst m0 β2 ⟨st.e, st.sz, endLoopA h2 st.h.next r⟩ { a with defers := [{ target := .collected w.heap.size, args := #[] }] ++ a.defers } (w3.putObj (w.heap.size + 1) (.loop { r' with state := .exhausted })) :=
    ⟨t1, t2, hR.he.mono hEall.sub, hR.sz, hmk⟩
   split at he
   ·rename_i hp
    cases he
    have hp' : r'.pending = none := s2.pending.trans hp
    exact ⟨none, w3.putObj (w.heap.size + 1) (.loop { r' with state := .exhausted }), (run_endLoop s1 hnb').trans (by rw [hp']), hQ _ _ _ hR' hEall⟩
   ·rename_i c hp
    have hp' : r'.pending = some c := s2.pending.trans hp
    refine ⟨some c, w3.putObj (w.heap.size + 1) (.loop { r' with state := .exhausted }), (run_endLoop s1 hnb').trans (by rw [hp']), ?_⟩
    exact hA F m m0 c _ ex st' β2 _ _ Q hF (fun _ => hro) (Nat.le_trans hm hEall.size) he hR' fun a3 w4 β3 hR3 hE3 => hQ a3 w4 β3 hR3 (hEall.trans hR.hr hE3)
theorem stepR_scope {b : Frame} {k : List Item} {cs : List Frame} {c : Code} : step P (lone (b.atR a (.code (.scope c) :: k)) cs w) = .next (lone (b.atR a (.code c :: .inScope c :: k)) cs w) :=
 step_lone_go (by simp [stepG, stepG.exec, Frame.atR])
theorem stepR_inScope {b : Frame} {k : List Item} {cs : List Frame} {c : Code} : step P (lone (b.atR a (.inScope c :: k)) cs w) = .next (lone (b.atR a k) cs w) :=
 step_lone_go (by simp [stepG, stepG.exec, Frame.atR])
def noGo (Q : Exit -> Act -> World -> Prop) : Exit -> Act -> World -> Prop
 | .goto _, _, _ => False
 | e, a, w => Q e a w
theorem wpIn_scope {F : Fence} {n : Nat} {Q : Exit -> Act -> World -> Prop} {c : Code} (h : c.wpIn F n P (noGo Q) a w) : (Code.scope c).wpIn F n P Q a w := by
 intro b k cs hro hb hr
 have h0 : (lone (b.atR a (.code (.scope c) :: k)) cs w).fenced P F := fenced_calm hb hr rfl
 obtain ⟨e, a₁, w₁, hq, harr⟩ := h b (.inScope c :: k) cs hro hb hr
 cases e with
 | normal => exact ⟨.normal, a₁, w₁, hq, .head h0 stepR_scope (StepsIn.trans harr (.one (fenced_calm hb hr rfl) stepR_inScope))⟩
 | exit id =>
  have hx : exitTo id (.inScope c :: k) = exitTo id k := by simp [exitTo]
  exact ⟨.exit id, a₁, w₁, hq, fun k' hk => .head h0 stepR_scope (harr.1 k' (by rw [hx]; exact hk)),
   fun hr' hk => let ⟨k₁, h1, h2⟩ := harr.2 hr' (by rw [hx]; exact hk); ⟨k₁, h1, .head h0 stepR_scope h2⟩⟩
 | goto l => exact hq.elim
 | ret => exact ⟨_, a₁, w₁, hq, .of_steps (.one h0 stepR_scope) harr⟩
 | panic ch => exact ⟨_, a₁, w₁, hq, .of_steps (.one h0 stepR_scope) harr⟩
 | outgrown => exact ⟨_, a₁, w₁, hq, .of_steps (.one h0 stepR_scope) harr⟩
theorem exec_sound {call : Call'} (rd : Bool) (hN : Named P) (hmix : P.follows .mixedOrders = true) (hcall : CallSound P call) : ∀ n, ExecSound P call rd n /\ LoopSound P call rd n
 | 0 => ⟨fun F m m0 c st ex st' β a w Q _ _ _ he => (by cases he), fun F m m0 b st ex st' β a w Q _ _ _ he => (by cases he)⟩
 | n + 1 => by
  obtain ⟨hA, hB⟩ := exec_sound rd hN hmix hcall n
  have hL := exec_loop hA hB
  refine ⟨?_, hL⟩
  intro F m m0 c st ex st' β a w Q hF hro hm he hR hQ
  cases c with
  | skip => simp only [exec] at he; cases he; exact wpIn_skip (hQ a w β hR (.refl _ _ _))
  | label l => simp only [exec] at he; cases he; exact wpIn_label (hQ a w β hR (.refl _ _ _))
  | exit id => simp only [exec] at he; cases he; exact wpIn_exit (hQ a w β hR (.refl _ _ _))
  | ret => simp only [exec] at he; cases he; exact wpIn_ret (hQ a w β hR (.refl _ _ _))
  | region id ops d =>
   simp only [exec] at he
   obtain ⟨s, h1, h2⟩ := map_inv' he
   cases h2
   cases d with
   | true => exact runAny_sound hF hN hmix hcall (by simpa using h1) hR hQ
   | false => exact wpIn_region_list (runOps_sound hF hN hcall _ (by simpa using h1) hR hQ)
  | seq x y =>
   simp only [exec] at he
   refine wpIn_seq ?_
   cases h1 : exec P call rd n x st with
   | none => rw [h1] at he; cases he
   | some r =>
    obtain ⟨e, s⟩ := r
    rw [h1] at he
    refine hA F m m0 x st e s β a w _ hF hro hm h1 hR fun a1 w1 β1 hR1 hE1 => ?_
    cases e with
    | normal => exact hA F m m0 y s ex st' β1 a1 w1 Q hF hro (Nat.le_trans hm hE1.size) he hR1 fun a2 w2 β2 hR2 hE2 => hQ a2 w2 β2 hR2 (hE1.trans hR.hr hE2)
    | exit id => cases he; exact hQ a1 w1 β1 hR1 hE1
    | ret => cases he; exact hQ a1 w1 β1 hR1 hE1
  | cond c x y =>
   simp only [exec] at he
   split at he
   case h_2 => cases he
   rename_i q hq
   have hc : a.eval c = .bool q := (ev_sound hR.he hq).free0_eq rfl
   refine wpIn_cond hc ?_
   exact hA F m m0 _ st ex st' β a w Q hF hro hm he hR hQ
  | block id b =>
   simp only [exec] at he
   refine wpIn_block ?_
   cases h1 : exec P call rd n b st with
   | none => rw [h1] at he; cases he
   | some r =>
    obtain ⟨e, s⟩ := r
    rw [h1] at he
    refine hA F m m0 b st e s β a w _ hF hro hm h1 hR fun a1 w1 β1 hR1 hE1 => ?_
    cases e with
    | normal => cases he; exact hQ a1 w1 β1 hR1 hE1
    | exit i =>
     simp only at he
     show if i = id then Q .normal a1 w1 else Q (.exit i) a1 w1
     split at he
     ·rename_i hi; rw [if_pos hi]; cases he; exact hQ a1 w1 β1 hR1 hE1
     ·rename_i hi; rw [if_neg hi]; cases he; exact hQ a1 w1 β1 hR1 hE1
    | ret => cases he; exact hQ a1 w1 β1 hR1 hE1
  | loop b => exact wpIn_loop_rounds (n + 1) (hL F m m0 b st ex st' β a w Q hF hro hm he hR hQ)
  | rangeFunc g ps assign body =>
   cases rd with
   | true => simp only [exec, if_true] at he; cases he
   | false => exact range_sound hF (hro rfl) hm hN hcall hA he hR hQ
  | scope b =>
   simp only [exec] at he
   refine wpIn_scope (hA F m m0 b st ex st' β a w _ hF hro hm he hR fun a1 w1 β1 hR1 hE1 => ?_)
   have := hQ a1 w1 β1 hR1 hE1
   cases ex <;> exact this
  | _ => simp only [exec] at he; cases he
theorem func_meets (hN : Named P) (hmix : P.follows .mixedOrders = true) {call : Call'} (hcall : CallSound P call) {f : FuncId} {fn : Func} {c : Code} (hfn : P.funcs[f]? = some fn) (hb : fn.body = some c)
  {args : List Value} {n : Nat} {ex : Ex} {st : St} {vs : List Value} (hx : exec P call false n c ⟨Tr.ofList args 0 .leaf, max args.length fn.ntmps, h⟩ = some (ex, st)) (hex : ex = .normal \/ ex = .ret)
  (hv : resA P st fn.results.toList = some vs) : Meets P (.func f) args h (one vs) st.h := by
 intro F m β w args' hF hr hw hargs
 show CallsIn F m P f ⟨args'⟩ w _
 have key : CallsIn F.plain m P f ⟨args'⟩ w (Ends' β h w (one vs) st.h) := by
  refine callsIn_of_wp_marks hfn hb (hF.fn f) ?_ rfl
  obtain ⟨i1, i2⟩ := init_sound hargs fn.ntmps
  have hR0 : Rst w.heap.size β ⟨Tr.ofList args 0 .leaf, max args.length fn.ntmps, h⟩ { tmps := (⟨args'⟩ : Array Value) ++ Array.replicate (fn.ntmps - (⟨args'⟩ : Array Value).size) undef, defers := [] } w :=
   ⟨hr, hw, i1, i2, .nil⟩
  refine (exec_sound false hN hmix hcall n).1 F.plain m w.heap.size c _ ex st β _ w _ hF.plain (fun _ => rfl) (Nat.le_refl _) hx hR0 fun a' w' β' hR hE => ?_
  have hgoal : LeavesInM F.plain m P fn a'.tmps (Ends' β h w (one vs) st.h) a'.defers .returning w' := by
   obtain ⟨bs, b1, b2, b3⟩ := hR.hd.ex
   rw [b1]
   refine leaves_sound bs w' b2 b3 hR.hr hE fun w'' hr'' hE'' => ?_
   obtain ⟨v', k1, k2⟩ := results_sound hr'' hR.hw hR.he hv
   exact ⟨v', k1, v', β', rfl, k2, hr'', hR.hw, hE''⟩
  rcases hex with rfl | rfl
  ·exact hgoal
  ·exact hgoal
 exact key
theorem round_meets (hN : Named P) (hmix : P.follows .mixedOrders = true) {call : Call'} (hcall : CallSound P call) {l : Nat} {r r1 r2 : ALoop} {args : List Value} {e0 : Tr Value} {n n' : Nat} {s1 s2 : St} {ex : Ex}
  (hl : h.t.get l = some (.loop r)) (hp : setPs r.sz r.params.toList args r.e = some e0) (hx1 : exec P call true n r.assign ⟨e0, r.sz, h⟩ = some (.normal, s1)) (hl1 : s1.h.t.get l = some (.loop r1)) (hst : r1.state = .ready)
  (hx2 : exec P call true n' r.body ⟨s1.e, s1.sz, busyA s1.h l r1⟩ = some (ex, s2)) (hl2 : s2.h.t.get l = some (.loop r2)) : Meets P (.yield l) args h (.bool ex.jump.isNone) (roundA s2.h l r2 ex.jump) := by
 intro F m β w args' hF hr hw hargs x hx
 obtain ⟨r', g1, g2⟩ := hr.loop l x r hx hl
 obtain ⟨p1, p2, p3⟩ := setPs_sound _ _ _ _ _ _ hp hargs g2.env g2.sz
 have hsz : (⟨args'⟩ : Array Value).size = r'.params.size := by
  have := hargs.1
  rw [g2.params]
  simp only [List.size_toArray, Array.length_toList] at *
  omega
 refine ⟨r'.fn, _, _, _, run_yield g1 hsz, ?_⟩
 have ezip : (r'.params.zip (⟨args'⟩ : Array Value)).foldl (fun tmps (t, a) => tmps.setIfInBounds t a) r'.tmps = (r.params.toList.zip args').foldl (fun tmps (p : Tmp × Value) => tmps.setIfInBounds p.1 p.2) r'.tmps := by
  rw [<-Array.foldl_toList, g2.params]
  simp [Array.toList_zip]
 refine roundIn_of_wpIn (hF.fn _) ?_
 rw [ezip, g2.assign, g2.body]
 have hR0 : Rst w.heap.size β ⟨e0, r.sz, h⟩ { tmps := (r.params.toList.zip args').foldl (fun tmps (p : Tmp × Value) => tmps.setIfInBounds p.1 p.2) r'.tmps, defers := [] } w := ⟨hr, hw, p2, p3, .nil⟩
 refine (exec_sound true hN hmix hcall n).1 (F.inRound x.g) m w.heap.size r.assign _ _ s1 β _ w _ (hF.inRound _) (fun q => by cases q) (Nat.le_refl _) hx1 hR0 fun a1 w1 β1 hR1 hE1 => ?_
 have hx1' := hE1.sub _ _ hx
 obtain ⟨r1', u1, u2⟩ := hR1.hr.loop l x r1 hx1' hl1
 obtain ⟨t1, t2, t3⟩ := setLoop_sound hR1.hr hR1.hw hx1' hl1 (r2 := { r1 with state := .busy }) (r2' := { r1' with state := .busy }) ⟨rfl, u2.pending, u2.env, u2.sz, u2.params, u2.assign, u2.body⟩
 refine ⟨_, run_beginRound u1 (u2.state.trans hst), ?_⟩
 have hR2 : Rst w.heap.size β1 ⟨s1.e, s1.sz, busyA s1.h l r1⟩ a1 (w1.putObj x.g (.loop { r1' with state := .busy })) := ⟨t1, t2, hR1.he, hR1.sz, hR1.hd.evo t3⟩
 have hE12 := hE1.trans hr t3
 refine (exec_sound true hN hmix hcall n').1 (F.inRound x.g) m w.heap.size r.body _ _ s2 β1 _ _ _ (hF.inRound _) (fun q => by cases q) hE12.size hx2 hR2 fun a3 w3 β3 hR3 hE3 => ?_
 have hE13 := hE12.trans hr hE3
 have hx3 := hE3.sub _ _ hx1'
 obtain ⟨r2', y1, y2⟩ := hR3.hr.loop l x r2 hx3 hl2
 have fin : ∀ j : Option Code, ex.jump = j -> ∃ v w', (Instr.endRound x.g j).run P w3 = .ok v w' /\ Ends' β h w (.bool ex.jump.isNone) (roundA s2.h l r2 ex.jump) (.returned v) w' := by
  intro j hj
  rw [hj]
  obtain ⟨z1, z2, z3⟩ := setLoop_sound hR3.hr hR3.hw hx3 hl2 (r2 := { r2 with state := if j.isNone then .ready else .done, pending := j }) (r2' := { r2' with state := if j.isNone then .ready else .done, pending := j }) ⟨rfl, rfl, y2.env, y2.sz, y2.params, y2.assign, y2.body⟩
  exact ⟨_, _, run_endRound j y1, _, β3, rfl, .of_free rfl, z1, z2, hE13.trans hr z3⟩
 cases ex with
 | normal => exact fin none rfl
 | exit id => exact fin _ rfl
 | ret => exact fin _ rfl
end
end Go.AM
namespace Go.AM
def posOf (L : List Nat) (id : Nat) : Option Nat := L.findIdx? (· == id)
def gcV (pos : Nat -> Option Nat) : Nat -> Value -> Option Value
 | 0, v => if free1 v then some v else none
 | d + 1, v =>
  if free1 v then some v else
  match v with
  | .pointer (some ⟨id, off, none⟩) => (pos id).map fun j => .pointer (some ⟨j, off, none⟩)
  | .slice (some ⟨id, off, none⟩) n c => (pos id).map fun j => .slice (some ⟨j, off, none⟩) n c
  | .slice none 0 1 => some (.slice none 0 1)
  | .map (some id) => (pos id).map fun j => .map (some j)
  | .func (.func f) a c =>
   match a.toList.mapM (gcV pos d), c.toList.mapM (gcV pos d) with
   | some a', some c' => some (.func (.func f) ⟨a'⟩ ⟨c'⟩)
   | _, _ => none
  | .func (.yield l) a c => if a.size = 0 /\ c.size = 0 then (pos l).map fun j => .func (.yield j) #[] #[] else none
  | .agg a => (a.toList.mapM (gcV pos d)).map fun a' => .agg ⟨a'⟩
  | .tuple a => (a.toList.mapM (gcV pos d)).map fun a' => .tuple ⟨a'⟩
  | .iface t v => (gcV pos d v).map (.iface t)
  | _ => none
def gcD (pos : Nat -> Option Nat) (l : List Value) : Option (List Value) := if l.all free1 then some l else l.mapM (gcV pos 9)
def gcM (pos : Nat -> Option Nat) (es : List MapEntry) : Option (List MapEntry) := es.mapM fun en => (gcV pos 9 en.val).map fun v => { en with val := v }
def gcE (pos : Nat -> Option Nat) (e : Tr Value) : List Nat -> Option (Tr Value)
 | [] => some .leaf
 | t :: r =>
  match e.get t, gcE pos e r with
  | some v, some e' => (gcV pos 9 v).map fun v' => e'.set t v'
  | _, _ => none
def gcO (k : Nat) (pos : Nat -> Option Nat) (h : AH) (j id : Nat) : Option AObj :=
 if j < k /\ j < h.wr then
  match h.t.get id with
  | some (.alias r lo n) => if r < h.wr then some (.alias r lo n) else none
  | some (.iter ..) => none
  | o => o
 else
 match h.t.get id with
 | some (.map es ck) => (gcM pos es).map (.map · ck)
 | some (.row d c l ro n0) =>
  if j < k then (if c < k then (gcD pos d).map fun d' => .row d' c l ro n0 else none)
  else if c = id then (gcD pos d).map fun d' => .row d' j BIG ro d.length
  else (gcD pos (d.take (min (lowAt l id) n0))).map fun d' => .row d' j BIG true (d.take (min (lowAt l id) n0)).length
 | some (.alias _ lo _) =>
  if j < k then none
  else
   match h.fam id with
   | some f =>
    if lo = 0 then
     if id = f.cur then (gcD pos f.data).map fun d' => .row d' j BIG f.ro f.data.length
     else (gcD pos (f.data.take (f.rb id))).map fun d' => .row d' j BIG true (f.data.take (f.rb id)).length
    else none
   | none => none
 | _ => none
def gcH (k : Nat) (pos : Nat -> Option Nat) (h : AH) : Nat -> List Nat -> Option (List AObj)
 | _, [] => some []
 | j, id :: r =>
  match gcO k pos h j id, gcH k pos h (j + 1) r with
  | some o, some l => some (o :: l)
  | _, _ => none
def gcOk (k : Nat) (h : AH) (L : List Nat) : Bool :=
 decide (k <= L.length) && (L.take k == List.range k) && ((L.drop k).all fun id => decide (k <= id) && decide (id < h.next)) && decide L.Nodup &&
 (List.range L.length).all fun j => (List.range j).all fun i => decide (j < k) || (match L[i]?, L[j]? with | some a, some b => rootOf h a != rootOf h b | _, _ => false)
def gc (k : Nat) (L slots : List Nat) (st : St) : Option St :=
 if gcOk k st.h L then
  match gcE (posOf L) st.e slots, gcH k (posOf L) st.h 0 L with
  | some e, some os => some ⟨e, st.sz, ⟨Tr.ofList os 0 .leaf, L.length, st.h.wr⟩⟩
  | _, _ => none
 else none
theorem mapM_some {α γ : Type} {f : α -> Option γ} : ∀ {l : List α} {l' : List γ}, l.mapM f = some l' -> l'.length = l.length /\ ∀ (i : Nat) (y : γ), l'[i]? = some y -> ∃ x, l[i]? = some x /\ f x = some y
 | [], l', h => by
  simp only [List.mapM_nil, Option.pure_def, Option.some.injEq] at h
  subst h
  exact ⟨rfl, fun i y hi => by simp at hi⟩
 | x :: l, l', h => by
  rw [List.mapM_cons] at h
  cases hx : f x with
  | none => rw [hx] at h; cases h
  | some y =>
   rw [hx] at h
   simp only [Option.bind_eq_bind, Option.bind_some] at h
   cases hl : l.mapM f with
   | none => rw [hl] at h; cases h
   | some l2 =>
    rw [hl] at h
    simp only [Option.bind_some, Option.pure_def, Option.some.injEq] at h
    subst h
    obtain ⟨k1, k2⟩ := mapM_some hl
    refine ⟨by simp [k1], fun i z hi => ?_⟩
    cases i with
    | zero => simp at hi; subst hi; exact ⟨x, rfl, hx⟩
    | succ i => simpa using k2 i z (by simpa using hi)
section
variable {β β1 : Ren} {pos : Nat -> Option Nat}
theorem gcV_sound (hp : ∀ id j, pos id = some j -> β1 j = β id) : ∀ (d : Nat) {v u v' : Value}, gcV pos d v = some u -> VR β v v' -> VR β1 u v'
 | 0, v, u, v', h, hv => by
  simp only [gcV] at h
  split at h
  ·cases h
   rw [hv.free1_eq ‹_›]
   exact .of_free1 ‹_›
  ·cases h
 | d + 1, v, u, v', h, hv => by
  have arr : ∀ {a a' : Array Value} {l : List Value}, a.toList.mapM (gcV pos d) = some l -> a.size = a'.size -> (∀ (i : Nat) (v v' : Value), a[i]? = some v -> a'[i]? = some v' -> VR β v v') →
    l.length = a'.size /\ ∀ (i : Nat) (v v' : Value), l[i]? = some v -> a'[i]? = some v' -> VR β1 v v' := by
   intro a a' l hm hs hr
   obtain ⟨k1, k2⟩ := mapM_some hm
   refine ⟨by rw [k1, Array.length_toList, hs], fun i w w' hi hi' => ?_⟩
   obtain ⟨x, hx1, hx2⟩ := k2 i w hi
   exact gcV_sound hp d hx2 (hr i x w' (by simpa using hx1) hi')
  simp only [gcV] at h
  split at h
  ·cases h
   rw [hv.free1_eq ‹_›]
   exact .of_free1 ‹_›
  rename_i hnf
  split at h
  ·obtain ⟨j, h1, h2⟩ := map_inv' h
   subst h2
   cases hv with
   | free _ hf => simp [free0] at hf
   | ptr hb hl => exact .ptr (by rw [hp _ _ h1]; exact hb) hl
  ·obtain ⟨j, h1, h2⟩ := map_inv' h
   subst h2
   cases hv with
   | free _ hf => simp [free0] at hf
   | slice hb hl hc ha => exact .slice (by rw [hp _ _ h1]; exact hb) hl hc ha
  ·cases h
   cases hv with
   | free _ hf => simp [free0] at hf
   | empty => exact .empty
  ·obtain ⟨j, h1, h2⟩ := map_inv' h
   subst h2
   cases hv with
   | free _ hf => simp [free0] at hf
   | map hb => exact .map (by rw [hp _ _ h1]; exact hb)
  ·split at h
   ·rename_i a' c' ha hc
    cases h
    cases hv with
    | free _ hf => simp [free0] at hf
    | func m1 m2 m3 m4 =>
     obtain ⟨p1, p2⟩ := arr ha m1 m2
     obtain ⟨q1, q2⟩ := arr hc m3 m4
     exact .func p1 (fun i v v' x y => p2 i v v' (by simpa using x) y) q1 (fun i v v' x y => q2 i v v' (by simpa using x) y)
   ·cases h
  ·split at h
   ·obtain ⟨j, h1, h2⟩ := map_inv' h
    subst h2
    cases hv with
    | free _ hf => simp [free0] at hf
    | yield hb => exact .yield (by rw [hp _ _ h1]; exact hb)
   ·cases h
  ·obtain ⟨l, h1, h2⟩ := map_inv' h
   subst h2
   cases hv with
   | free _ hf => simp [free0] at hf
   | agg m1 m2 => obtain ⟨p1, p2⟩ := arr h1 m1 m2; exact .agg p1 fun i v v' x y => p2 i v v' (by simpa using x) y
  ·obtain ⟨l, h1, h2⟩ := map_inv' h
   subst h2
   cases hv with
   | free _ hf => simp [free0] at hf
   | tuple m1 m2 => obtain ⟨p1, p2⟩ := arr h1 m1 m2; exact .tuple p1 fun i v v' x y => p2 i v v' (by simpa using x) y
  ·obtain ⟨l, h1, h2⟩ := map_inv' h
   subst h2
   cases hv with
   | free _ hf => simp [free0] at hf
   | iface m1 => exact .iface (gcV_sound hp d h1 m1)
  ·cases h
theorem gcD_sound (hp : ∀ id j, pos id = some j -> β1 j = β id) {l l' : List Value} (h : gcD pos l = some l') :
  l'.length = l.length /\ ∀ (i : Nat) (u v' : Value), l'[i]? = some u -> (∀ v, l[i]? = some v -> VR β v v') -> VR β1 u v' := by
 unfold gcD at h
 split at h
 ·rename_i hf
  cases h
  refine ⟨rfl, fun i u v' hi hv => ?_⟩
  have hu : free1 u = true := List.all_eq_true.1 hf u (List.mem_of_getElem? hi)
  rw [(hv u hi).free1_eq hu]
  exact .of_free1 hu
 ·obtain ⟨k1, k2⟩ := mapM_some h
  refine ⟨k1, fun i u v' hi hv => ?_⟩
  obtain ⟨x, hx1, hx2⟩ := k2 i u hi
  exact gcV_sound hp 9 hx2 (hv x hx1)
theorem gcM_sound (hp : ∀ id j, pos id = some j -> β1 j = β id) {es es1 es' : List MapEntry} (h : gcM pos es = some es1) (he : EsR β es es') : EsR β1 es1 es' := by
 obtain ⟨k1, k2⟩ := mapM_some h
 refine ⟨by rw [k1]; exact he.1, fun i a b ha hb => ?_⟩
 obtain ⟨x, hx1, hx2⟩ := k2 i a ha
 obtain ⟨v, hv1, hv2⟩ := map_inv' hx2
 subst hv2
 have := he.2 i x b hx1 hb
 exact ⟨this.key, this.fk, gcV_sound hp 9 hv1 this.val, this.born⟩
theorem gcE_sound (hp : ∀ id j, pos id = some j -> β1 j = β id) {e : Tr Value} {tmps : Array Value} (he : EnvW β e tmps) : ∀ {ts : List Nat} {e' : Tr Value}, gcE pos e ts = some e' -> EnvW β1 e' tmps
 | [], e', h => by
  cases h
  intro t v hv
  cases hv
 | t :: r, e', h => by
  simp only [gcE] at h
  split at h
  case h_2 => cases h
  rename_i v e2 h1 h2
  obtain ⟨u, h3, h4⟩ := map_inv' h
  subst h4
  have ih := gcE_sound hp he h2
  intro s w hw
  rw [Tr.get_set] at hw
  split at hw
  ·rename_i hs
   subst hs
   cases hw
   obtain ⟨v', k1, k2⟩ := he _ _ h1
   exact ⟨v', k1, gcV_sound hp 9 h3 k2⟩
  ·exact ih s w hw
end
end Go.AM
namespace Go.AM
theorem posOf_some {L : List Nat} {id j : Nat} (h : posOf L id = some j) : L[j]? = some id := by
 unfold posOf at h
 obtain ⟨h1, h2, _⟩ := List.findIdx?_eq_some_iff_getElem.1 h
 rw [List.getElem?_eq_getElem h1]
 simpa using h2
theorem gcH_some {k : Nat} {pos : Nat -> Option Nat} {h : AH} : ∀ {L : List Nat} {s : Nat} {os : List AObj}, gcH k pos h s L = some os -> os.length = L.length /\ ∀ (j : Nat) (id : Nat), L[j]? = some id -> ∃ o, os[j]? = some o /\ gcO k pos h (s + j) id = some o
 | [], s, os, hq => by
  cases hq
  exact ⟨rfl, fun j id hj => by simp at hj⟩
 | x :: L, s, os, hq => by
  simp only [gcH] at hq
  split at hq
  ·rename_i o l h1 h2
   cases hq
   obtain ⟨k1, k2⟩ := gcH_some h2
   refine ⟨by simp [k1], fun j id hj => ?_⟩
   cases j with
   | zero => simp at hj; subst hj; exact ⟨o, rfl, h1⟩
   | succ j =>
    obtain ⟨o', m1, m2⟩ := k2 j id (by simpa using hj)
    exact ⟨o', by simpa using m1, by rw [<-m2]; congr 1; omega⟩
  ·cases hq
structure GcOk (k : Nat) (h : AH) (L : List Nat) : Prop where
 kl : k <= L.length
 low : ∀ j, j < k -> L[j]? = some j
 high : ∀ j id, k <= j -> L[j]? = some id -> k <= id /\ id < h.next
 inj : ∀ (i j id : Nat), L[i]? = some id -> L[j]? = some id -> i = j
 roots : ∀ i j a b, i < j -> k <= j -> L[i]? = some a -> L[j]? = some b -> rootOf h a ≠ rootOf h b
theorem gcOk_spec {k : Nat} {h : AH} {L : List Nat} (hq : gcOk k h L = true) : GcOk k h L := by
 unfold gcOk at hq
 simp only [Bool.and_eq_true, decide_eq_true_eq, beq_iff_eq] at hq
 obtain ⟨⟨⟨⟨h1, h2⟩, h3⟩, h4⟩, h5⟩ := hq
 have hlt : ∀ {i a : Nat}, L[i]? = some a -> i < L.length := fun hi => (List.getElem?_eq_some_iff.1 hi).1
 refine ⟨h1, fun j hj => ?_, fun j id hj hid => ?_, fun i j id hi hj => ?_, fun i j a b hij hkj ha hb => ?_⟩
 ·have : (L.take k)[j]? = (List.range k)[j]? := by rw [h2]
  rw [List.getElem?_take_of_lt hj] at this
  rw [this, List.getElem?_range hj]
 ·have hm : id ∈ L.drop k := List.mem_of_getElem? (i := j - k) (by rw [List.getElem?_drop]; rwa [show k + (j - k) = j by omega])
  have := List.all_eq_true.1 h3 id hm
  simpa using this
 ·have := List.pairwise_iff_getElem.1 h4
  have e1 : L[i]'(hlt hi) = id := by have := List.getElem?_eq_getElem (hlt hi); rw [hi] at this; exact (Option.some.inj this).symm
  have e2 : L[j]'(hlt hj) = id := by have := List.getElem?_eq_getElem (hlt hj); rw [hj] at this; exact (Option.some.inj this).symm
  rcases Nat.lt_trichotomy i j with q | q | q
  ·exact absurd (e1.trans e2.symm) (this i j (hlt hi) (hlt hj) q)
  ·exact q
  ·exact absurd (e2.trans e1.symm) (this j i (hlt hj) (hlt hi) q)
 ·have := List.all_eq_true.1 (List.all_eq_true.1 h5 j (List.mem_range.2 (hlt hb))) i (List.mem_range.2 hij)
  rw [ha, hb] at this
  simp only [Bool.or_eq_true, decide_eq_true_eq, bne_iff_ne] at this
  rcases this with q | q
  ·omega
  ·exact q
section
variable {k : Nat} {L slots : List Nat} {st st0 : St} {β0 β : Ren} {h0 : AH} {w0 w : World} {a : Act} {m0 : Nat}
def reN (L : List Nat) (β : Ren) : Ren := fun j => match L[j]? with | some id => β id | none => none
theorem reN_some {j : Nat} {x : Bx} (h : reN L β j = some x) : ∃ id, L[j]? = some id /\ β id = some x := by
 unfold reN at h
 split at h
 ·exact ⟨_, ‹_›, h⟩
 ·cases h
theorem reN_at {j id : Nat} (h : L[j]? = some id) : reN L β j = β id := by unfold reN; rw [h]
structure FamIs (k : Nat) (L : List Nat) (h h1 : AH) (β : Ren) (h0 : AH) (j id : Nat) (f f1 : Fam) : Prop where
 lo : f1.lo = f.lo
 rb : f1.rb j <= f.rb id
 data : (∃ x, β id = some x) -> ∀ p u, f1.lo <= p -> p < f1.rb j -> f1.data[p]? = some u -> ∃ v, f.data[p]? = some v /\ ∀ v', VR β v v' -> VR (reN L β) u v'
 own : f1.ro = false -> f.ro = false /\ f1.n <= f.n
 ro : f.ro = true -> f1.ro = true
 root : (j < k -> f1.root = f.root /\ f1.ro = f.ro) /\ (k <= j -> f1.root = j)
 wf : f1.lo <= f1.n /\ (j = f1.cur -> f1.n = f1.data.length) /\ (j ≠ f1.cur -> min (lowAt f1.low j) f1.n <= f1.data.length) /\ f1.cur < L.length
theorem reN_low (hok : GcOk k st.h L) {id : Nat} (hid : id < k) : reN L β id = β id := reN_at (hok.low id hid)
theorem sub_res (hok : GcOk k st.h L) : Sub (res β k) (reN L β) := fun id x hx => by
 obtain ⟨h1, h2⟩ := res_some hx
 rw [reN_low hok h1]; exact h2
theorem pos_ren {id j : Nat} (h : posOf L id = some j) : reN L β j = β id := reN_at (posOf_some h)
theorem fam_row {h : AH} {id : Nat} {d : List Value} {c l : Nat} {ro : Bool} {n0 : Nat} (hg : h.t.get id = some (.row d c l ro n0)) : h.fam id = some ⟨id, 0, n0, d, c, l, ro⟩ := by unfold AH.fam; rw [hg]
theorem fam_alias {h : AH} {id r lo n : Nat} {d : List Value} {c l : Nat} {ro : Bool} {n0 : Nat} (hg : h.t.get id = some (.alias r lo n)) (hg2 : h.t.get r = some (.row d c l ro n0)) : h.fam id = some ⟨r, lo, n, d, c, l, ro⟩ := by unfold AH.fam; rw [hg]; simp only [hg2]
theorem data_exact (hok : GcOk k st.h L) (hk : h0.next = k) (hr0 : HR β0 h0 w0) (hE : Evo β0 h0 w0 β st.h w) {j : Nat} {x : Bx} {f : Fam} (hjk : j < k) (hx : β j = some x) (hf0 : h0.fam j = some f) :
  ∀ p u, f.lo <= p -> p < f.rb j -> f.data[p]? = some u -> ∃ v, f.data[p]? = some v /\ ∀ v', VR β v v' -> VR (reN L β) u v' := by
 intro p u h1 h2 h3
 refine ⟨u, h3, fun v' hv => ?_⟩
 cases hb : β0 j with
 | none => have := hE.new j x hx hb; omega
 | some y =>
  obtain ⟨_, c, el, fz, _, _, m3, _⟩ := hr0.row _ _ _ hb hf0
  obtain ⟨v'', _, q2⟩ := m3 p u h1 h2 h3
  have hcl : Cl k u := Cl.of_vr (fun id x hx => by rw [<-hk]; exact (hr0.dom id x hx).1) q2
  exact (hv.res hcl).mono (sub_res hok)
theorem fam_new (hok : GcOk k st.h L) (hk : h0.next = k) (hr0 : HR β0 h0 w0) (hw0 : Wf h0) (hw : Wf st.h) (hE : Evo β0 h0 w0 β st.h w) {os : List AObj} (hos : gcH k (posOf L) st.h 0 L = some os)
  {j id : Nat} (hj : L[j]? = some id) {f1 : Fam} (hf1 : (⟨Tr.ofList os 0 .leaf, L.length, st.h.wr⟩ : AH).fam j = some f1) :
  ∃ f, st.h.fam id = some f /\ FamIs k L st.h (⟨Tr.ofList os 0 .leaf, L.length, st.h.wr⟩ : AH) β h0 j id f f1 := by
 obtain ⟨ol, og⟩ := gcH_some hos
 have hget : ∀ i, (Tr.ofList os 0 .leaf).get i = os[i]? := by
  intro i
  rw [Tr.get_ofList]
  by_cases hi : i < os.length
  ·rw [if_pos ⟨Nat.zero_le _, by omega⟩, Nat.sub_zero]
  ·rw [if_neg ow, List.getElem?_eq_none ow]; rfl
 have hjl : j < L.length := (List.getElem?_eq_some_iff.1 hj).1
 obtain ⟨o, ho1, ho2⟩ := og j id hj
 rw [Nat.zero_add] at ho2
 unfold gcO at ho2
 split at ho2
 ·-- kept as it is
  rename_i hc
  obtain ⟨hjk, hjw⟩ := hc
  have hid : id = j := by have := hok.low j hjk; rw [hj] at this; exact Option.some.inj this
  subst hid
  have hobj := hE.objs id ow hjw
  have fin : ∀ f, h0.fam id = some f -> st.h.fam id = some f -> f1 = f -> FamIs k L st.h (⟨Tr.ofList os 0 .leaf, L.length, st.h.wr⟩ : AH) β h0 id id f f1 := by
   intro f e1 e2 e3
   subst e3
   refine ⟨rfl, Nat.le_refl _, fun ⟨x, hx⟩ => data_exact hok hk hr0 hE hjk hx e1, fun h => ⟨h, Nat.le_refl _⟩, fun h => h, ⟨fun _ => ⟨rfl, rfl⟩, fun h => by omega⟩, hw0.lon _ _ e1, hw0.curn _ _ e1, hw0.stale _ _ e1, ?_⟩
   have := hw0.cur _ _ e1
   have := hok.kl
   omega
  split at ho2
  ·rename_i r lo n hg
   split at ho2
   case isFalse => cases ho2
   rename_i hrw
   cases ho2
   rw [hobj] at hg
   obtain ⟨d, c, l, ro, n0, hg2, hne⟩ := hw0.ali _ _ _ _ hg
   have hrk : r < k := by rw [<-hk]; exact hw0.lt _ _ hg2
   have hobj2 := hE.objs r ow hrw
   obtain ⟨o2, hp1, hp2⟩ := og r r (hok.low r hrk)
   rw [Nat.zero_add] at hp2
   unfold gcO at hp2
   rw [if_pos ⟨hrk, hrw⟩, hobj2, hg2] at hp2
   cases hp2
   have e0 := fam_alias hg hg2
   have e1 := fam_alias (h := st.h) (by rw [hobj]; exact hg) (by rw [hobj2]; exact hg2)
   have e2 := fam_alias (h := (⟨Tr.ofList os 0 .leaf, L.length, st.h.wr⟩ : AH)) (by rw [<-ho1]; exact hget id) (by rw [<-hp1]; exact hget r)
   rw [hf1] at e2
   exact ⟨_, e1, fin _ e0 e1 (Option.some.inj e2)⟩
  ·cases ho2
  ·rename_i hna hni
   cases hg : st.h.t.get id with
   | none => rw [hg] at ho2; cases ho2
   | some ob =>
    rw [hg] at ho2
    have ho3 : ob = o := Option.some.inj ho2
    subst ho3
    have hg0 : h0.t.get id = some ob := by rw [<-hobj]; exact hg
    have hgn : (⟨Tr.ofList os 0 .leaf, L.length, st.h.wr⟩ : AH).t.get id = some ob := by rw [<-ho1]; exact hget id
    cases ob with
    | row d c l ro n0 =>
     have e2 := fam_row hgn
     rw [hf1] at e2
     exact ⟨_, fam_row hg, fin _ (fam_row hg0) (fam_row hg) (Option.some.inj e2)⟩
    | alias r lo n => exact absurd hg (hna r lo n)
    | map es ck => exact (fam_not_map hf1 hgn).elim
    | loop r => exact (fam_not_loop hf1 hgn).elim
    | iter m s e l => exact absurd hg (hni m s e l)
 ·rename_i hnc
  have hgn : (⟨Tr.ofList os 0 .leaf, L.length, st.h.wr⟩ : AH).t.get j = some o := by rw [<-ho1]; exact hget j
  split at ho2
  ·obtain ⟨es, _, h2⟩ := map_inv' ho2
   subst h2
   exact (fam_not_map hf1 hgn).elim
  ·rename_i d c l ro n0 hg
   have hf := fam_row hg
   split at ho2
   ·rename_i hjk
    split at ho2
    case isFalse => cases ho2
    rename_i hck
    obtain ⟨d', h1, h2⟩ := map_inv' ho2
    subst h2
    obtain ⟨k1, k2⟩ := gcD_sound (β := β) (β1 := reN L β) (fun id j h => pos_ren h) h1
    have hid : id = j := by have := hok.low j hjk; rw [hj] at this; exact Option.some.inj this
    subst hid
    rw [fam_row hgn] at hf1
    cases hf1
    refine ⟨_, hf, rfl, Nat.le_refl _, fun _ p u a b c => ?_, fun h => ⟨h, Nat.le_refl _⟩, fun h => h, ⟨fun _ => ⟨rfl, rfl⟩, fun h => by omega⟩, Nat.zero_le _, ?_, ?_, ?_⟩
    ·have hlt : p < d.length := by rw [<-k1]; exact (List.getElem?_eq_some_iff.1 c).1
     exact ⟨d[p], List.getElem?_eq_getElem hlt, fun v' hv => k2 p u v' c fun v hv2 => by rw [List.getElem?_eq_getElem hlt] at hv2; cases hv2; exact hv⟩
    ·intro h; rw [k1]; exact hw.curn _ _ hf h
    ·intro h; rw [k1]; exact hw.stale _ _ hf h
    ·have := hok.kl; simp only; omega
   ·rename_i hjk
    split at ho2
    ·rename_i hci
     subst hci
     obtain ⟨d', h1, h2⟩ := map_inv' ho2
     subst h2
     obtain ⟨k1, k2⟩ := gcD_sound (β := β) (β1 := reN L β) (fun id j h => pos_ren h) h1
     have hn0 : n0 = d.length := hw.curn _ _ hf rfl
     rw [fam_row hgn] at hf1
     cases hf1
     refine ⟨_, hf, rfl, ?_, fun _ p u a b c => ?_, fun h => ⟨h, by simp only; omega⟩, fun h => h, ⟨fun h => absurd h hjk, fun _ => rfl⟩, Nat.zero_le _, fun _ => k1.symm, fun h => absurd rfl h, hjl⟩
     ·simp only [Fam.rb, if_true]; omega
     ·have hlt : p < d.length := by rw [<-k1]; exact (List.getElem?_eq_some_iff.1 c).1
      exact ⟨d[p], List.getElem?_eq_getElem hlt, fun v' hv => k2 p u v' c fun v hv2 => by rw [List.getElem?_eq_getElem hlt] at hv2; cases hv2; exact hv⟩
    ·rename_i hci
     obtain ⟨d', h1, h2⟩ := map_inv' ho2
     subst h2
     obtain ⟨k1, k2⟩ := gcD_sound (β := β) (β1 := reN L β) (fun id j h => pos_ren h) h1
     rw [fam_row hgn] at hf1
     cases hf1
     refine ⟨_, hf, rfl, ?_, fun _ p u a b c => ?_, fun h => (by cases h), fun _ => rfl, ⟨fun h => absurd h hjk, fun _ => rfl⟩, Nat.zero_le _, fun _ => k1.symm, fun h => absurd rfl h, hjl⟩
     ·simp only [Fam.rb, if_true, if_neg (Ne.symm hci), List.length_take]; omega
     ·have hlt : p < (d.take (min (lowAt l id) n0)).length := by rw [<-k1]; exact (List.getElem?_eq_some_iff.1 c).1
      have hlt2 : p < d.length := by simp at hlt; omega
      have hlt3 : p < min (lowAt l id) n0 := by simp at hlt; omega
      exact ⟨d[p], List.getElem?_eq_getElem hlt2, fun v' hv => k2 p u v' c fun v hv2 => by rw [List.getElem?_take_of_lt hlt3, List.getElem?_eq_getElem hlt2] at hv2; cases hv2; exact hv⟩
  ·rename_i r lo n hg
   split at ho2
   ·cases ho2
   rename_i hjk
   split at ho2
   case h_2 => cases ho2
   rename_i f hf
   split at ho2
   case isFalse => cases ho2
   rename_i hlo
   have hflo : f.lo = 0 := by
    unfold AH.fam at hf
    rw [hg] at hf
    simp only at hf
    split at hf
    ·cases hf; exact hlo
    ·cases hf
   split at ho2
   ·rename_i hci
    obtain ⟨d', h1, h2⟩ := map_inv' ho2
    subst h2
    obtain ⟨k1, k2⟩ := gcD_sound (β := β) (β1 := reN L β) (fun id j h => pos_ren h) h1
    have hn0 : f.n = f.data.length := hw.curn _ _ hf hci
    rw [fam_row hgn] at hf1
    cases hf1
    refine ⟨_, hf, hflo.symm, ?_, fun _ p u a b c => ?_, fun h => ⟨h, by simp only; omega⟩, fun h => h, ⟨fun h => absurd h hjk, fun _ => rfl⟩, Nat.zero_le _, fun _ => k1.symm, fun h => absurd rfl h, hjl⟩
    ·simp only [Fam.rb, if_true, if_pos hci]; omega
    ·have hlt : p < f.data.length := by rw [<-k1]; exact (List.getElem?_eq_some_iff.1 c).1
     exact ⟨f.data[p], List.getElem?_eq_getElem hlt, fun v' hv => k2 p u v' c fun v hv2 => by rw [List.getElem?_eq_getElem hlt] at hv2; cases hv2; exact hv⟩
   ·rename_i hci
    obtain ⟨d', h1, h2⟩ := map_inv' ho2
    subst h2
    obtain ⟨k1, k2⟩ := gcD_sound (β := β) (β1 := reN L β) (fun id j h => pos_ren h) h1
    rw [fam_row hgn] at hf1
    cases hf1
    refine ⟨_, hf, hflo.symm, ?_, fun _ p u a b c => ?_, fun h => (by cases h), fun _ => rfl, ⟨fun h => absurd h hjk, fun _ => rfl⟩, Nat.zero_le _, fun _ => k1.symm, fun h => absurd rfl h, hjl⟩
    ·simp only [Fam.rb, if_true, if_neg hci, List.length_take]; omega
    ·have hlt : p < (f.data.take (f.rb id)).length := by rw [<-k1]; exact (List.getElem?_eq_some_iff.1 c).1
     have hlt2 : p < f.data.length := by simp at hlt; omega
     have hlt3 : p < f.rb id := by simp at hlt; omega
     exact ⟨f.data[p], List.getElem?_eq_getElem hlt2, fun v' hv => k2 p u v' c fun v hv2 => by rw [List.getElem?_take_of_lt hlt3, List.getElem?_eq_getElem hlt2] at hv2; cases hv2; exact hv⟩
  ·cases ho2
end
end Go.AM
namespace Go.AM
section
variable {k : Nat} {L slots : List Nat} {st st0 : St} {β0 β : Ren} {h0 : AH} {w0 w : World} {a : Act} {m0 : Nat}
theorem flat_gcO {h : AH} {pos : Nat -> Option Nat} {j id : Nat} {o : AObj} {f : Fam} (ho : gcO k pos h j id = some o) (hfl : o.flat = true) (hf : h.fam id = some f) : False := by
 unfold gcO at ho
 split at ho
 ·split at ho
  ·split at ho
   ·cases ho; cases hfl
   ·cases ho
  ·cases ho
  ·have := fam_flat ho hfl
   rw [hf] at this; cases this
 ·split at ho
  ·rename_i hg; exact fam_not_map hf hg
  ·split at ho
   ·split at ho
    ·obtain ⟨d', _, h2⟩ := map_inv' ho; subst h2; cases hfl
    ·cases ho
   ·split at ho
    ·obtain ⟨d', _, h2⟩ := map_inv' ho; subst h2; cases hfl
    ·obtain ⟨d', _, h2⟩ := map_inv' ho; subst h2; cases hfl
  ·split at ho
   ·cases ho
   ·split at ho
    ·split at ho
     ·split at ho
      ·obtain ⟨d', _, h2⟩ := map_inv' ho; subst h2; cases hfl
      ·obtain ⟨d', _, h2⟩ := map_inv' ho; subst h2; cases hfl
     ·cases ho
    ·cases ho
  ·cases ho
theorem gc_sound (hg : gc k L slots st = some st0) (hk : h0.next = k) (hr0 : HR β0 h0 w0) (hw0 : Wf h0) (hR : Rst m0 β st a w) (hE : Evo β0 h0 w0 β st.h w) :
  ∃ β1, Rst m0 β1 st0 a w /\ Evo β0 h0 w0 β1 st0.h w := by
 unfold gc at hg
 split at hg
 case isFalse => cases hg
 rename_i hok0
 have hok := gcOk_spec hok0
 split at hg
 case h_2 => cases hg
 rename_i e os he hos
 cases hg
 obtain ⟨ol, og⟩ := gcH_some hos
 have hget : ∀ i, (Tr.ofList os 0 .leaf).get i = os[i]? := by
  intro i
  rw [Tr.get_ofList]
  by_cases hi : i < os.length
  ·rw [if_pos ⟨Nat.zero_le _, by omega⟩, Nat.sub_zero]
  ·rw [if_neg ow, List.getElem?_eq_none ow]; rfl
 have hpos : ∀ id j, posOf L id = some j -> reN L β j = β id := fun id j h => pos_ren h
 -- a map or a record under its new number
 have obj : ∀ {j id : Nat} {x : Bx} {o : AObj}, L[j]? = some id -> β id = some x -> os[j]? = some o -> o.flat = true →
   (∃ es ck es1, o = .map es1 ck /\ st.h.t.get id = some (.map es ck) /\ ∀ es', EsR β es es' -> EsR (reN L β) es1 es') \/ (∃ r, o = .loop r /\ st.h.t.get id = some (.loop r) /\ ∀ r', LoopR β r r' -> LoopR (reN L β) r r') := by
  intro j id x o hj hx ho hfl
  obtain ⟨o', ho1, ho2⟩ := og j id hj
  rw [ho] at ho1
  cases ho1
  rw [Nat.zero_add] at ho2
  unfold gcO at ho2
  split at ho2
  ·rename_i hc
   obtain ⟨hjk, hjw⟩ := hc
   have hid : id = j := by have := hok.low j hjk; rw [hj] at this; exact Option.some.inj this
   subst hid
   have hobj := hE.objs id ow hjw
   have hb0 : ∃ y, β0 id = some y := by
    cases hb : β0 id with
    | none => have := hE.new id x hx hb; omega
    | some y => exact ⟨y, rfl⟩
   obtain ⟨y, hb0⟩ := hb0
   have hcl : ∀ {u u' : Value}, VR β0 u u' -> Cl k u := fun hv => Cl.of_vr (fun id x hx => by rw [<-hk]; exact (hr0.dom id x hx).1) hv
   split at ho2
   ·split at ho2
    ·cases ho2; cases hfl
    ·cases ho2
   ·cases ho2
   ·rename_i hna hni
    have ho3 : st.h.t.get id = some o := ho2
    have hg0 : h0.t.get id = some o := by rw [<-hobj]; exact ho3
    cases o with
    | row => cases hfl
    | alias => cases hfl
    | iter m s e l => exact absurd ho3 (hni m s e l)
    | map es ck =>
     refine .inl ⟨es, ck, es, rfl, ho3, fun es' hes => ⟨hes.1, fun i a b h1 h2 => ?_⟩⟩
     obtain ⟨es'', _, q2⟩ := hr0.map _ _ _ _ hb0 hg0
     have hlt : i < es.length := (List.getElem?_eq_some_iff.1 h1).1
     have hc := (q2.2 i a _ h1 (List.getElem?_eq_getElem (by rw [<-q2.1]; exact hlt))).val
     have := hes.2 i a b h1 h2
     exact ⟨this.key, this.fk, (this.val.res (hcl hc)).mono (sub_res hok), this.born⟩
    | loop r =>
     refine .inr ⟨r, rfl, ho3, fun r' hr' => { hr' with env := fun t v hv => ?_ }⟩
     obtain ⟨r'', _, q2⟩ := hr0.loop _ _ _ hb0 hg0
     obtain ⟨v', q3, q4⟩ := hr'.env t v hv
     obtain ⟨v'', _, q5⟩ := q2.env t v hv
     exact ⟨v', q3, (q4.res (hcl q5)).mono (sub_res hok)⟩
  ·split at ho2
   ·rename_i es ck hg
    obtain ⟨es1, h1, h2⟩ := map_inv' ho2
    subst h2
    exact .inl ⟨es, ck, es1, rfl, hg, fun es' hes => gcM_sound hpos h1 hes⟩
   ·split at ho2
    ·split at ho2
     ·obtain ⟨d', _, h2⟩ := map_inv' ho2; subst h2; cases hfl
     ·cases ho2
    ·split at ho2
     ·obtain ⟨d', _, h2⟩ := map_inv' ho2; subst h2; cases hfl
     ·obtain ⟨d', _, h2⟩ := map_inv' ho2; subst h2; cases hfl
   ·split at ho2
    ·cases ho2
    ·split at ho2
     ·split at ho2
      ·split at ho2
       ·obtain ⟨d', _, h2⟩ := map_inv' ho2; subst h2; cases hfl
       ·obtain ⟨d', _, h2⟩ := map_inv' ho2; subst h2; cases hfl
      ·cases ho2
     ·cases ho2
   ·cases ho2
 have fam : ∀ {j id : Nat} {f1 : Fam}, L[j]? = some id -> (⟨Tr.ofList os 0 .leaf, L.length, st.h.wr⟩ : AH).fam j = some f1 -> ∃ f, st.h.fam id = some f /\ FamIs k L st.h (⟨Tr.ofList os 0 .leaf, L.length, st.h.wr⟩ : AH) β h0 j id f f1 :=
  fun h1 h3 => fam_new hok hk hr0 hw0 hR.hw hE hos h1 h3
 have new : ∀ {j id : Nat} {x : Bx} {f : Fam}, L[j]? = some id -> β id = some x -> st.h.fam id = some f -> ∃ f1, (⟨Tr.ofList os 0 .leaf, L.length, st.h.wr⟩ : AH).fam j = some f1 := by
  intro j id x f hj hb hf
  obtain ⟨o, ho1, ho2⟩ := og j id hj
  have hgn : (⟨Tr.ofList os 0 .leaf, L.length, st.h.wr⟩ : AH).t.get j = some o := by rw [<-ho1]; exact hget j
  cases ho : o.flat with
  | true =>
   rcases obj hj hb ho1 ho with ⟨es0, ck0, es1, e1, e2, _⟩ | ⟨r0, e1, e2, _⟩
   ·exact (fam_not_map hf e2).elim
   ·exact (fam_not_loop hf e2).elim
  | false =>
   cases o with
   | row d c l ro n0 => exact ⟨_, fam_row hgn⟩
   | map => cases ho
   | loop => cases ho
   | iter => cases ho
   | alias r lo n =>
    rw [Nat.zero_add] at ho2
    unfold gcO at ho2
    split at ho2
    ·rename_i hc
     have hid : id = j := by have := hok.low j hc.1; rw [hj] at this; exact Option.some.inj this
     subst hid
     split at ho2
     ·rename_i r' lo' n' hg
      split at ho2
      case isFalse => cases ho2
      rename_i hrw
      cases ho2
      have hobj := hE.objs id ow hc.2
      rw [hobj] at hg
      obtain ⟨d, c, l, ro, n0, hg2, _⟩ := hw0.ali _ _ _ _ hg
      have hrk : r < k := by rw [<-hk]; exact hw0.lt _ _ hg2
      have hobj2 := hE.objs r ow hrw
      obtain ⟨o2, hp1, hp2⟩ := og r r (hok.low r hrk)
      rw [Nat.zero_add] at hp2
      unfold gcO at hp2
      rw [if_pos ⟨hrk, hrw⟩, hobj2, hg2] at hp2
      cases hp2
      exact ⟨_, fam_alias hgn (by rw [<-hp1]; exact hget r)⟩
     ·cases ho2
     ·rename_i hna hni
      exact absurd ho2 (hna r lo n)
    ·split at ho2
     ·obtain ⟨es, _, h2⟩ := map_inv' ho2; cases h2
     ·split at ho2
      ·split at ho2
       ·obtain ⟨d', _, h2⟩ := map_inv' ho2; cases h2
       ·cases ho2
      ·split at ho2
       ·obtain ⟨d', _, h2⟩ := map_inv' ho2; cases h2
       ·obtain ⟨d', _, h2⟩ := map_inv' ho2; cases h2
     ·split at ho2
      ·cases ho2
      ·split at ho2
       ·split at ho2
        ·split at ho2
         ·obtain ⟨d', _, h2⟩ := map_inv' ho2; cases h2
         ·obtain ⟨d', _, h2⟩ := map_inv' ho2; cases h2
        ·cases ho2
       ·cases ho2
     ·cases ho2
 have heap : HR (reN L β) (⟨Tr.ofList os 0 .leaf, L.length, st.h.wr⟩ : AH) w := by
  refine ⟨fun j x hx => ?_, fun j x f1 hx hf => ?_, fun j x es ck hx hm => ?_, fun j x r hx hm => ?_, fun i j x y hx hy hxy => ?_, fun j x m s e l hx hm => ?_, hR.hr.more.glob, fun j x hx hg => ?_⟩
  ·obtain ⟨id, h1, h2⟩ := reN_some hx
   exact ⟨(List.getElem?_eq_some_iff.1 h1).1, (hR.hr.dom _ _ h2).2⟩
  ·obtain ⟨id, h1, h2⟩ := reN_some hx
   obtain ⟨f, q1, q2⟩ := fam h1 hf
   obtain ⟨r1, c, el, fz, r2, r3, r4, r5⟩ := hR.hr.row _ _ _ h2 q1
   refine ⟨by rw [q2.lo]; exact r1, c, el, fz, r2, r3, fun p u a1 a2 a3 => ?_, fun hro => ?_⟩
   ·obtain ⟨v, s1, s2⟩ := q2.data ⟨x, h2⟩ p u a1 a2 a3
    obtain ⟨v', t1, t2⟩ := r4 p v (by rw [<-q2.lo]; exact a1) (Nat.lt_of_lt_of_le a2 q2.rb) s1
    exact ⟨v', t1, s2 v' t2⟩
   ·obtain ⟨s1, s2⟩ := q2.own hro
    obtain ⟨t1, t2⟩ := r5 s1
    refine ⟨t1, ?_⟩
    have := q2.lo
    omega
  ·obtain ⟨id, h1, h2⟩ := reN_some hx
   have hm' : os[j]? = some (.map es ck) := by rw [<-hget]; exact hm
   rcases obj h1 h2 hm' rfl with ⟨es0, ck0, es1, e1, e2, e3⟩ | ⟨r, e1, _⟩
   ·cases e1
    obtain ⟨es', s1, s2⟩ := hR.hr.map _ _ _ _ h2 e2
    exact ⟨es', s1, e3 _ s2⟩
   ·cases e1
  ·obtain ⟨id, h1, h2⟩ := reN_some hx
   have hm' : os[j]? = some (.loop r) := by rw [<-hget]; exact hm
   rcases obj h1 h2 hm' rfl with ⟨es0, ck0, es1, e1, _⟩ | ⟨r0, e1, e2, e3⟩
   ·cases e1
   ·cases e1
    obtain ⟨r', s1, s2⟩ := hR.hr.loop _ _ _ h2 e2
    exact ⟨r', s1, e3 _ s2⟩
  ·obtain ⟨a1, h1, h2⟩ := reN_some hx
   obtain ⟨b1, g1, g2⟩ := reN_some hy
   rcases hR.hr.disj _ _ _ _ h2 g2 hxy with q | ⟨f, f', q1, q2, q3⟩
   ·subst q; exact .inl (hok.inj _ _ _ h1 g1)
   ·-- rows of one block: what are they under the new numbers?
    obtain ⟨f1, n1⟩ := new h1 h2 q1
    obtain ⟨f2, n2⟩ := new g1 g2 q2
    obtain ⟨f0, p1, p2⟩ := fam h1 n1
    rw [q1] at p1; cases p1
    obtain ⟨f0', p3, p4⟩ := fam g1 n2
    rw [q2] at p3; cases p3
    rcases q3 with ⟨q3, q4⟩ | ⟨q3, q4⟩
    ·by_cases hij : i = j
     ·exact .inl hij
     ·right
      refine ⟨f1, f2, n1, n2, .inl ⟨?_, q4⟩⟩
      have hrt : rootOf st.h a1 = rootOf st.h b1 := by rw [rootOf_eq q1, rootOf_eq q2]; exact q3
      have hik : i < k /\ j < k := by
       rcases Nat.lt_or_gt_of_ne hij with g | g
       ·rcases Nat.lt_or_ge j k with r | r
        ·exact ⟨by omega, r⟩
        ·exact absurd hrt (hok.roots i j a1 b1 g r h1 g1)
       ·rcases Nat.lt_or_ge i k with r | r
        ·exact ⟨r, by omega⟩
        ·exact absurd hrt.symm (hok.roots j i b1 a1 g r g1 h1)
      rw [(p2.root.1 hik.1).1, (p4.root.1 hik.2).1]
      exact q3
    ·exact .inr ⟨f1, f2, n1, n2, .inr ⟨p2.ro q3, p4.ro q4⟩⟩
  ·obtain ⟨id, h1, h2⟩ := reN_some hx
   have hm' : os[j]? = some (.iter m s e l) := by rw [<-hget]; exact hm
   rcases obj h1 h2 hm' rfl with ⟨es0, ck0, es1, e1, _⟩ | ⟨r0, e1, _⟩ <;> cases e1
  ·obtain ⟨id, h1, h2⟩ := reN_some hx
   have hro := hR.hr.more.apart id x h2 hg
   cases hf : st.h.fam id with
   | none => rw [roOf_none hf] at hro; cases hro
   | some f =>
    obtain ⟨f1, n1⟩ := new h1 h2 hf
    obtain ⟨f0, p1, p2⟩ := fam h1 n1
    rw [hf] at p1; cases p1
    rw [roOf_some hf] at hro
    rw [roOf_some n1]
    exact p2.ro hro
 have lt1 : ∀ {j : Nat} {o : AObj}, (Tr.ofList os 0 .leaf).get j = some o -> j < L.length := by
  intro j o hj
  rw [hget] at hj
  have := (List.getElem?_eq_some_iff.1 hj).1
  omega
 have at1 : ∀ {j : Nat}, j < L.length -> ∃ id, L[j]? = some id := fun hj => ⟨_, List.getElem?_eq_getElem hj⟩
 have famlt : ∀ {j : Nat} {f1 : Fam}, (⟨Tr.ofList os 0 .leaf, L.length, st.h.wr⟩ : AH).fam j = some f1 -> j < L.length := by
  intro j f1 hf
  unfold AH.fam at hf
  cases hg : (Tr.ofList os 0 .leaf).get j with
  | none => simp only [hg] at hf; cases hf
  | some o => exact lt1 hg
 have wfn : ∀ {j : Nat} {f1 : Fam}, (⟨Tr.ofList os 0 .leaf, L.length, st.h.wr⟩ : AH).fam j = some f1 -> f1.lo <= f1.n /\ (j = f1.cur -> f1.n = f1.data.length) /\ (j ≠ f1.cur -> min (lowAt f1.low j) f1.n <= f1.data.length) /\ f1.cur < L.length := by
  intro j f1 hf
  obtain ⟨id, hid⟩ := at1 (famlt hf)
  obtain ⟨f, _, q⟩ := fam hid hf
  exact q.wf
 have ali : ∀ {j r lo n : Nat}, os[j]? = some (.alias r lo n) -> j < k /\ j < st.h.wr /\ r < k /\ r < st.h.wr /\ h0.t.get j = some (.alias r lo n) /\ os[r]? = h0.t.get r := by
  intro j r lo n ho
  obtain ⟨id, hid⟩ := at1 (lt1 (by rw [hget]; exact ho))
  obtain ⟨o, ho1, ho2⟩ := og j id hid
  rw [ho] at ho1
  cases ho1
  rw [Nat.zero_add] at ho2
  unfold gcO at ho2
  split at ho2
  ·rename_i hc
   have hid' : id = j := by have := hok.low j hc.1; rw [hid] at this; exact Option.some.inj this
   subst hid'
   have hobj := hE.objs id ow hc.2
   split at ho2
   ·rename_i r' lo' n' hg
    split at ho2
    case isFalse => cases ho2
    rename_i hrw
    cases ho2
    rw [hobj] at hg
    obtain ⟨d, c, l, ro, n0, hg2, _⟩ := hw0.ali _ _ _ _ hg
    have hrk : r < k := by rw [<-hk]; exact hw0.lt _ _ hg2
    have hobj2 := hE.objs r ow hrw
    obtain ⟨o2, hp1, hp2⟩ := og r r (hok.low r hrk)
    rw [Nat.zero_add] at hp2
    unfold gcO at hp2
    rw [if_pos ⟨hrk, hrw⟩, hobj2, hg2] at hp2
    cases hp2
    exact ⟨hc.1, hc.2, hrk, hrw, hg, by rw [hp1, hg2]⟩
   ·cases ho2
   ·rename_i hna hni
    exact absurd ho2 (hna r lo n)
  ·split at ho2
   ·obtain ⟨es, _, h2⟩ := map_inv' ho2; cases h2
   ·split at ho2
    ·split at ho2
     ·obtain ⟨d', _, h2⟩ := map_inv' ho2; cases h2
     ·cases ho2
    ·split at ho2
     ·obtain ⟨d', _, h2⟩ := map_inv' ho2; cases h2
     ·obtain ⟨d', _, h2⟩ := map_inv' ho2; cases h2
   ·split at ho2
    ·cases ho2
    ·split at ho2
     ·split at ho2
      ·split at ho2
       ·obtain ⟨d', _, h2⟩ := map_inv' ho2; cases h2
       ·obtain ⟨d', _, h2⟩ := map_inv' ho2; cases h2
      ·cases ho2
     ·cases ho2
   ·cases ho2
 have wf : Wf (⟨Tr.ofList os 0 .leaf, L.length, st.h.wr⟩ : AH) := by
  refine ⟨fun j o hj => lt1 hj, fun j f hf => (wfn hf).1, fun j f hf => (wfn hf).2.1, fun j f hf => (wfn hf).2.2.1, fun j f hf => (wfn hf).2.2.2, fun j r lo n hj => ?_⟩
  obtain ⟨_, _, hr, _, h2, h3⟩ := ali (by rw [<-hget]; exact hj)
  obtain ⟨d, c, l, ro, n0, hg2, hne⟩ := hw0.ali _ _ _ _ h2
  exact ⟨d, c, l, ro, n0, by show (Tr.ofList os 0 .leaf).get r = _; rw [hget, h3, hg2], hne⟩
 -- the old names' rows
 have old : ∀ id, id < k -> rootOf (⟨Tr.ofList os 0 .leaf, L.length, st.h.wr⟩ : AH) id = rootOf h0 id /\ roOf (⟨Tr.ofList os 0 .leaf, L.length, st.h.wr⟩ : AH) id = roOf h0 id := by
  intro id hid
  rw [<-hE.root id ow, <-hE.ro id ow]
  cases hf : (⟨Tr.ofList os 0 .leaf, L.length, st.h.wr⟩ : AH).fam id with
  | some f1 =>
   obtain ⟨f, q1, q2⟩ := fam (hok.low id hid) hf
   unfold rootOf roOf
   rw [hf, q1]
   exact q2.root.1 hid
  | none =>
   have : st.h.fam id = none := by
    cases hf2 : st.h.fam id with
    | none => rfl
    | some f =>
     exfalso
     obtain ⟨o, ho1, ho2⟩ := og id id (hok.low id hid)
     have hgn : (⟨Tr.ofList os 0 .leaf, L.length, st.h.wr⟩ : AH).t.get id = some o := by rw [<-ho1]; exact hget id
     cases o with
     | row => rw [fam_row hgn] at hf; cases hf
     | alias r lo n =>
      obtain ⟨_, _, hr, _, h2, h3⟩ := ali ho1
      obtain ⟨d, c, l, ro, n0, hg2, hne⟩ := hw0.ali _ _ _ _ h2
      rw [fam_alias hgn (by show (Tr.ofList os 0 .leaf).get r = _; rw [hget, h3, hg2])] at hf
      cases hf
     | map es ck =>
      rw [Nat.zero_add] at ho2
      exact flat_gcO ho2 rfl hf2
     | loop r =>
      rw [Nat.zero_add] at ho2
      exact flat_gcO ho2 rfl hf2
     | iter m s e l =>
      rw [Nat.zero_add] at ho2
      exact flat_gcO ho2 rfl hf2
   unfold rootOf roOf
   rw [hf, this]
   exact ⟨rfl, rfl⟩
 have evo : Evo β0 h0 w0 (reN L β) (⟨Tr.ofList os 0 .leaf, L.length, st.h.wr⟩ : AH) w := {
  sub := fun id x hx => by
   have := (hr0.dom id x hx).1
   rw [reN_low hok ow]
   exact hE.sub id x hx
  new := fun j x hx hn => by
   obtain ⟨id, h1, h2⟩ := reN_some hx
   rcases Nat.lt_or_ge j k with q | q
   ·have hid : id = j := by have := hok.low j q; rw [h1] at this; exact Option.some.inj this
    subst hid
    exact hE.new id x h2 hn
   ·omega
  all := fun j h1 h2 => by
   obtain ⟨id, hid⟩ := at1 h2
   rw [reN_at hid]
   obtain ⟨q1, q2⟩ := hok.high j id ow hid
   exact hE.all id ow q2
  blk := fun j x hx hn => by
   obtain ⟨id, h1, h2⟩ := reN_some hx
   refine hE.blk id x h2 ?_
   rcases Nat.lt_or_ge j k with q | q
   ·have hid : id = j := by have := hok.low j q; rw [h1] at this; exact Option.some.inj this
    subst hid
    exact hn
   ·exact hr0.none_next (by have := (hok.high j id q h1).1; omega)
  size := hE.size
  os := hE.os
  tape := hE.tape
  output := hE.output
  frame := hE.frame
  next := by have := hok.kl; simp only; omega
  wr := hE.wr
  root := fun id hid => (old id ow).1
  ro := fun id hid => (old id ow).2
  objs := fun id hid hw => by
   show (Tr.ofList os 0 .leaf).get id = _
   have hobj := hE.objs id hid hw
   rw [hget]
   obtain ⟨o, ho1, ho2⟩ := og id id (hok.low id ow)
   rw [Nat.zero_add] at ho2
   unfold gcO at ho2
   rw [if_pos ⟨by omega, hw⟩] at ho2
   rw [ho1, <-hobj]
   split at ho2
   ·rename_i hg
    split at ho2
    ·rw [hg]; exact ho2.symm
    ·cases ho2
   ·cases ho2
   ·exact ho2.symm }
 refine ⟨reN L β, ⟨heap, wf, gcE_sound hpos hR.he he, hR.sz, ?_⟩, evo⟩
 obtain ⟨bs, b1, b2, b3⟩ := hR.hd.ex
 refine ⟨bs, b1, b2, fun b hb => ⟨(b3 b hb).1, (b3 b hb).2.lt, (b3 b hb).2.at_, fun j x hx hxb => ?_⟩⟩
 obtain ⟨id, _, h2⟩ := reN_some hx
 exact (b3 b hb).2.no id x h2 hxb
end
end Go.AM
namespace Go.AM
def Tri (P : Program) (h0 : AH) (c : Code) (st : St) (Q : Ex -> St -> Prop) : Prop :=
 ∀ (F : Fence) (m : Nat) (β0 : Ren) (w0 : World), Open F -> F.round = none -> HR β0 h0 w0 -> Wf h0 →
  ∀ (β : Ren) (a : Act) (w : World) (Q' : Exit -> Act -> World -> Prop), Rst w0.heap.size β st a w -> Evo β0 h0 w0 β st.h w →
   (∀ ex st' β' a' w', Q ex st' -> Rst w0.heap.size β' st' a' w' -> Evo β0 h0 w0 β' st'.h w' -> Q' ex.to a' w') -> c.wpIn F m P Q' a w
structure Fit (P : Program) : Prop where
 named : Named P
 mix : P.follows .mixedOrders = true
def Ex.then (R : St -> Prop) (Q : Ex -> St -> Prop) : Ex -> St -> Prop
 | .normal, s => R s
 | e, s => Q e s
def Ex.out (id : Nat) (Q : Ex -> St -> Prop) : Ex -> St -> Prop
 | .exit i, s => if i = id then Q .normal s else Q (.exit i) s
 | e, s => Q e s
section
variable {P : Program} {h0 : AH} {c x y b : Code} {st s st0 : St} {Q Q2 : Ex -> St -> Prop} {call : Call'} {n : Nat} {ex : Ex}
theorem Tri.mono (h : Tri P h0 c st Q) (hq : ∀ ex s, Q ex s -> Q2 ex s) : Tri P h0 c st Q2 :=
 fun F m β0 w0 hF hro hr0 hw0 β a w Q' hR hE hQ => h F m β0 w0 hF hro hr0 hw0 β a w Q' hR hE fun ex st' β' a' w' q => hQ ex st' β' a' w' (hq ex st' q)
theorem tri_exec (hP : Fit P) (hcall : CallSound P call) (he : exec P call false n c st = some (ex, s)) (hq : Q ex s) : Tri P h0 c st Q := by
 intro F m β0 w0 hF hro hr0 hw0 β a w Q' hR hE hQ
 exact (exec_sound false hP.named hP.mix hcall n).1 F m w0.heap.size c st ex s β a w Q' hF (fun _ => hro) hE.size he hR fun a' w' β' hR' hE' => hQ ex s β' a' w' hq hR' (hE.trans hr0 hE')
theorem tri_seq (h : Tri P h0 x st (Ex.then (fun s => Tri P h0 y s Q) Q)) : Tri P h0 (.seq x y) st Q := by
 intro F m β0 w0 hF hro hr0 hw0 β a w Q' hR hE hQ
 refine wpIn_seq (h F m β0 w0 hF hro hr0 hw0 β a w _ hR hE fun ex st' β' a' w' hq hR' hE' => ?_)
 cases ex with
 | normal => exact hq F m β0 w0 hF hro hr0 hw0 β' a' w' Q' hR' hE' hQ
 | exit id => exact hQ _ st' β' a' w' hq hR' hE'
 | ret => exact hQ _ st' β' a' w' hq hR' hE'
theorem tri_cond {o : Operand} {q : Bool} (hc : ev st.e o = some (.bool q)) (h : Tri P h0 (if q then x else y) st Q) : Tri P h0 (.cond o x y) st Q := by
 intro F m β0 w0 hF hro hr0 hw0 β a w Q' hR hE hQ
 exact wpIn_cond ((ev_sound hR.he hc).free0_eq rfl) (h F m β0 w0 hF hro hr0 hw0 β a w Q' hR hE hQ)
theorem tri_block {id : Nat} (h : Tri P h0 b st (Ex.out id Q)) : Tri P h0 (.block id b) st Q := by
 intro F m β0 w0 hF hro hr0 hw0 β a w Q' hR hE hQ
 refine wpIn_block (h F m β0 w0 hF hro hr0 hw0 β a w _ hR hE fun ex st' β' a' w' hq hR' hE' => ?_)
 cases ex with
 | normal => exact hQ _ st' β' a' w' hq hR' hE'
 | exit i =>
  show if i = id then Q' .normal a' w' else Q' (.exit i) a' w'
  unfold Ex.out at hq
  simp only at hq
  split at hq
  ·rename_i hi; rw [if_pos hi]; exact hQ .normal st' β' a' w' hq hR' hE'
  ·rename_i hi; rw [if_neg hi]; exact hQ (.exit i) st' β' a' w' hq hR' hE'
 | ret => exact hQ _ st' β' a' w' hq hR' hE'
theorem tri_skip (h : Q .normal st) : Tri P h0 .skip st Q := fun _ _ _ _ _ _ _ _ β a w _ hR hE hQ => wpIn_skip (hQ .normal st β a w h hR hE)
theorem tri_exit {id : Nat} (h : Q (.exit id) st) : Tri P h0 (.exit id) st Q := fun _ _ _ _ _ _ _ _ β a w _ hR hE hQ => wpIn_exit (hQ (.exit id) st β a w h hR hE)
theorem tri_ret (h : Q .ret st) : Tri P h0 .ret st Q := fun _ _ _ _ _ _ _ _ β a w _ hR hE hQ => wpIn_ret (hQ .ret st β a w h hR hE)
end
end Go.AM
namespace Go.AM
def mkE : List Nat -> List Value -> Tr Value
 | t :: ts, v :: vs => (mkE ts vs).set t v
 | _, _ => .leaf
def cst (sz : Nat) (slots : List Nat) (vals : List Value) (os : List AObj) (wr : Nat) : St := ⟨mkE slots vals, sz, ⟨Tr.ofList os 0 .leaf, os.length, wr⟩⟩
def gcVs (pos : Nat -> Option Nat) (e : Tr Value) : List Nat -> Option (List Value)
 | [] => some []
 | t :: r =>
  match e.get t, gcVs pos e r with
  | some v, some vs => (gcV pos 9 v).map (· :: vs)
  | _, _ => none
inductive Frm where
 | seq (y : Code)
 | block (id : Nat)
 | loop (R : St -> Prop)
def post (P : Program) (h0 : AH) : List Frm -> (Ex -> St -> Prop) -> (Ex -> St -> Prop)
 | [], Q => Q
 | .seq y :: fr, Q => Ex.then (fun s => Tri P h0 y s (post P h0 fr Q)) (post P h0 fr Q)
 | .block id :: fr, Q => Ex.out id (post P h0 fr Q)
 | .loop R :: fr, Q => Ex.then R (post P h0 fr Q)
def TriK (P : Program) (h0 : AH) (c : Code) (fr : List Frm) (st : St) (Q : Ex -> St -> Prop) : Prop := Tri P h0 c st (post P h0 fr Q)
def OpsK (P : Program) (call : Call') (ops : Array Oper) (l : List Oper) (st : St) (K : St -> Prop) : Prop := ∃ s, runOps P call ops l st = some s /\ K s
def DrawK (P : Program) (call : Call') (ops : Array Oper) (l : List Oper) (st : St) (acc : List Inf) (K : St -> List Inf -> Prop) : Prop := ∃ s infs, drawGo P call ops l st = some (s, infs) /\ K s (acc ++ infs)
def infOf (e : Tr Value) (t : Tr AObj) (nx : Nat) (op : Op) (t' : Tr AObj) (nx' wr' : Nat) : Inf :=
 ⟨floats op && nx' == nx && (match readId e op with | none => true | some id => decide (max id (rootOf ⟨t, nx, 0⟩ id) < nx)), (readId e op).map fun id => max id (rootOf ⟨t, nx, 0⟩ id), decide (nx <= wr'), wr', (match readId e op with | none => if envOnly op then [nx] else [] | some id => [id, rootOf ⟨t, nx, 0⟩ id]), fun x => sameO (t.get x) (t'.get x)⟩
section
variable {P : Program} {call : Call'} {ops : Array Oper} {o : Oper} {rest : List Oper} {e : Tr Value} {n : Nat} {h h' : AH} {K : St -> Prop} {KD : St -> List Inf -> Prop} {v : Value} {d : Nat} {acc : List Inf}
 {t t' : Tr AObj} {nx nx' wr wr' : Nat}
theorem o_step (hw : wantedA ops e o = some true) (hd : o.dst = some d) (hx : doOp P call e h o = some (v, h')) (hlt : d < n) (k : OpsK P call ops rest ⟨e.set d v, n, h'⟩ K) :
  OpsK P call ops (o :: rest) ⟨e, n, h⟩ K := by
 obtain ⟨s, h1, h2⟩ := k
 refine ⟨s, ?_, h2⟩
 simp only [runOps, step1, hw, hx, hd, putE, if_pos hlt, Option.map_some, h1]
theorem o_stepN (hw : wantedA ops e o = some true) (hd : o.dst = none) (hx : doOp P call e h o = some (v, h')) (k : OpsK P call ops rest ⟨e, n, h'⟩ K) :
  OpsK P call ops (o :: rest) ⟨e, n, h⟩ K := by
 obtain ⟨s, h1, h2⟩ := k
 refine ⟨s, ?_, h2⟩
 simp only [runOps, step1, hw, hx, hd, putE, Option.map_some, h1]
theorem o_skip (hw : wantedA ops e o = some false) (hd : o.dst = some d) (hlt : d < n) (k : OpsK P call ops rest ⟨e.set d undef, n, h⟩ K) :
  OpsK P call ops (o :: rest) ⟨e, n, h⟩ K := by
 obtain ⟨s, h1, h2⟩ := k
 refine ⟨s, ?_, h2⟩
 simp only [runOps, step1, hw, hd, putE, if_pos hlt, Option.map_some, h1]
theorem o_done {st : St} (k : K st) : OpsK P call ops [] st K := ⟨_, rfl, k⟩
theorem d_step (hw : wantedA ops e o = some true) (hd : o.dst = some d) (hx : doOp P call e ⟨t, nx, BIG⟩ o = some (v, ⟨t', nx', wr'⟩)) (hlt : d < n)
  (k : DrawK P call ops rest ⟨e.set d v, n, ⟨t', nx', min wr wr'⟩⟩ (acc ++ [infOf e t nx o.op t' nx' wr']) KD) : DrawK P call ops (o :: rest) ⟨e, n, ⟨t, nx, wr⟩⟩ acc KD := by
 obtain ⟨s, infs, h1, h2⟩ := k
 refine ⟨s, _, ?_, by rw [List.append_assoc] at h2; exact h2⟩
 simp only [drawGo, draw1, hw, hx, hd, putE, if_pos hlt, Option.map_some, h1]
 rfl
theorem d_stepN (hw : wantedA ops e o = some true) (hd : o.dst = none) (hx : doOp P call e ⟨t, nx, BIG⟩ o = some (v, ⟨t', nx', wr'⟩))
  (k : DrawK P call ops rest ⟨e, n, ⟨t', nx', min wr wr'⟩⟩ (acc ++ [infOf e t nx o.op t' nx' wr']) KD) : DrawK P call ops (o :: rest) ⟨e, n, ⟨t, nx, wr⟩⟩ acc KD := by
 obtain ⟨s, infs, h1, h2⟩ := k
 refine ⟨s, _, ?_, by rw [List.append_assoc] at h2; exact h2⟩
 simp only [drawGo, draw1, hw, hx, hd, putE, Option.map_some, h1]
 rfl
theorem d_skip (hw : wantedA ops e o = some false) (hd : o.dst = some d) (hlt : d < n) (k : DrawK P call ops rest ⟨e.set d undef, n, h⟩ (acc ++ [Inf.skip]) KD) :
  DrawK P call ops (o :: rest) ⟨e, n, h⟩ acc KD := by
 obtain ⟨s, infs, h1, h2⟩ := k
 refine ⟨s, _, ?_, by rw [List.append_assoc] at h2; exact h2⟩
 simp only [drawGo, draw1, hw, hd, putE, if_pos hlt, Option.map_some, h1]
 rfl
theorem d_done {st : St} (k : KD st acc) : DrawK P call ops [] st acc KD := ⟨_, [], rfl, by rw [List.append_nil]; exact k⟩
end
section
variable {P : Program} {h0 : AH} {c x y b : Code} {st s st0 : St} {Q : Ex -> St -> Prop} {call : Call'} {fr : List Frm} {ops : Array Oper} {id id' i : Nat}
def EndK (P : Program) (h0 : AH) (fr : List Frm) (ex : Ex) (s : St) (Q : Ex -> St -> Prop) : Prop := post P h0 fr Q ex s
theorem k_region (hP : Fit P) (hcall : CallSound P call) (k : OpsK P call ops ops.toList st fun s => EndK P h0 fr .normal s Q) : TriK P h0 (.region i ops false) fr st Q := by
 obtain ⟨s, h1, h2⟩ := k
 have he : exec P call false 1 (.region i ops false) st = some (.normal, s) := by
  simp only [exec]
  rw [if_neg (by decide), h1]
  rfl
 exact tri_exec hP hcall he h2
def DrawEnd (P : Program) (h0 : AH) (ops : Array Oper) (fr : List Frm) (wr : Nat) (Q : Ex -> St -> Prop) (s : St) (infs : List Inf) : Prop :=
 (tailOk (Region.before ops) (least infs) infs && decide (s.h.next <= BIG) && decide (wr <= BIG)) = true /\ EndK P h0 fr .normal s Q
theorem k_draw (hP : Fit P) (hcall : CallSound P call) (hok : drawOk ops = true) (k : DrawK P call ops ops.toList st [] (DrawEnd P h0 ops fr st.h.wr Q)) : TriK P h0 (.region i ops true) fr st Q := by
 obtain ⟨s, infs, h1, h2, h3⟩ := k
 rw [List.nil_append] at h2
 have hr : runDraw P call ops st = some s := by simp only [runDraw, if_pos hok, h1, if_pos h2]
 intro F m β0 w0 hF hro hr0 hw0 β a w Q' hR hE hQ
 exact runDraw_sound hF hP.named hP.mix hcall hr hR fun a' w' β' hR' hE' => hQ .normal s β' a' w' h3 hR' (hE.trans hr0 hE')
theorem Evo.lower {β0 β : Ren} {w0 w : World} {t : Tr AObj} {nx wr wr' : Nat} (hE : Evo β0 h0 w0 β ⟨t, nx, wr⟩ w) (hw : wr' <= wr) : Evo β0 h0 w0 β ⟨t, nx, wr'⟩ w where
 sub := hE.sub
 new := hE.new
 all := hE.all
 blk := fun id x a b => (hE.blk id x a b).imp (fun k => k) fun ⟨i0, x0, k1, k2, k3, k4⟩ => ⟨i0, x0, k1, k2, Nat.le_trans hw k3, k4⟩
 size := hE.size
 os := hE.os
 tape := hE.tape
 output := hE.output
 frame := fun b hb => (hE.frame b hb).imp (fun k => k) fun ⟨i0, x0, k1, k2, k3, k4⟩ => ⟨i0, x0, k1, k2, Nat.le_trans hw k3, k4⟩
 next := hE.next
 wr := Nat.le_trans hw hE.wr
 root := hE.root
 ro := hE.ro
 objs := fun id a b => hE.objs id a (Nat.lt_of_lt_of_le b hw)
theorem HR.wr {β : Ren} {w : World} {t : Tr AObj} {nx wr wr' : Nat} (h : HR β ⟨t, nx, wr⟩ w) : HR β ⟨t, nx, wr'⟩ w := ⟨h.dom, h.row, h.map, h.loop, h.disj, ⟨h.more.iter, h.more.glob, h.more.apart⟩⟩
theorem Wf.wr {t : Tr AObj} {nx wr wr' : Nat} (h : Wf ⟨t, nx, wr⟩) : Wf ⟨t, nx, wr'⟩ := ⟨h.lt, h.lon, h.curn, h.stale, h.cur, h.ali⟩
theorem gcE_mk {pos : Nat -> Option Nat} {e : Tr Value} : ∀ {slots : List Nat} {vals : List Value}, gcVs pos e slots = some vals -> gcE pos e slots = some (mkE slots vals)
 | [], vals, _ => by cases vals <;> rfl
 | t :: r, vals, h => by
  simp only [gcVs] at h
  split at h
  case h_2 => cases h
  rename_i v vs h1 h2
  obtain ⟨u, h3, h4⟩ := map_inv' h
  subst h4
  simp only [gcE, h1, gcE_mk h2, h3]
  rfl
def Gives' (P : Program) (fn : Func) (h : AH) (v : Value) (h' : AH) : Ex -> St -> Prop :=
 fun ex s => (∃ L slots vals os w vs, (ex = .normal \/ ex = .ret) /\ gcOk h.next s.h L = true /\ gcVs (posOf L) s.e slots = some vals /\ gcH h.next (posOf L) s.h 0 L = some os /\ Nat.ble w s.h.wr = true ∧
  resA P (cst s.sz slots vals os w) fn.results.toList = some vs /\ one vs = v /\ ⟨Tr.ofList os 0 .leaf, os.length, w⟩ = h') ∨
  (∃ L os w vs, (ex = .normal \/ ex = .ret) /\ gcOk h.next s.h L = true /\ resA P s fn.results.toList = some vs /\ gcV (posOf L) 9 (one vs) = some v /\ gcH h.next (posOf L) s.h 0 L = some os /\ Nat.ble w s.h.wr = true /\ ⟨Tr.ofList os 0 .leaf, os.length, w⟩ = h')
theorem meets_of_triK (hP : Fit P) {f : FuncId} {fn : Func} (hfn : P.funcs[f]? = some fn) (hb : fn.body = some c) {args : List Value} {h h' : AH} {v : Value}
  (ht : TriK P h c [] ⟨Tr.ofList args 0 .leaf, max args.length fn.ntmps, h⟩ (Gives' P fn h v h')) : Meets P (.func f) args h v h' := by
 have _ := hP
 intro F m β w args' hF hr hw hargs
 show CallsIn F m P f ⟨args'⟩ w _
 have key : CallsIn F.plain m P f ⟨args'⟩ w (Ends' β h w v h') := by
  refine callsIn_of_wp_marks hfn hb (hF.fn f) ?_ rfl
  obtain ⟨i1, i2⟩ := init_sound hargs fn.ntmps
  have hR0 : Rst w.heap.size β ⟨Tr.ofList args 0 .leaf, max args.length fn.ntmps, h⟩ { tmps := (⟨args'⟩ : Array Value) ++ Array.replicate (fn.ntmps - (⟨args'⟩ : Array Value).size) undef, defers := [] } w :=
   ⟨hr, hw, i1, i2, .nil⟩
  refine ht F.plain m β w hF.plain rfl hr hw β _ w _ hR0 (.refl _ _ _) fun ex s β' a' w' hq hR hE => ?_
  rcases hq with ⟨L, slots, vals, os, wl, vs, hex, h1, h2, h3, h4, g2, g3, g4⟩ | ⟨L, os, wl, vs, hex, h1, g2, g3, h3, h4, g4⟩
  case inr =>
   have hgoal : LeavesInM F.plain m P fn a'.tmps (Ends' β h w v h') a'.defers .returning w' := by
    obtain ⟨bs, b1, b2, b3⟩ := hR.hd.ex
    rw [b1]
    refine leaves_sound bs w' b2 b3 hR.hr hE fun w'' hr'' hE'' => ?_
    obtain ⟨v', k1, k2⟩ := results_sound hr'' hR.hw hR.he g2
    have hR2 : Rst w''.heap.size β' ⟨s.e.set s.sz (one vs), s.sz + 1, s.h⟩ { tmps := a'.tmps.push v', defers := [] } w'' := by
     refine ⟨hr'', hR.hw, ?_, by simp [hR.sz], .nil⟩
     intro t u hu
     rw [Tr.get_set] at hu
     split at hu
     ·rename_i ht
      cases hu
      refine ⟨v', ?_, k2⟩
      rw [ht, <-hR.sz, Array.getElem?_push_size]
     ·rename_i ht
      obtain ⟨u', q1, q2⟩ := hR.he t u hu
      refine ⟨u', ?_, q2⟩
      have hlt : t < a'.tmps.size := (Array.getElem?_eq_some_iff.1 q1).1
      rw [Array.getElem?_push_lt hlt]
      exact (Array.getElem?_eq_getElem hlt).symm.trans q1
    have hg : gc h.next L [s.sz] ⟨s.e.set s.sz (one vs), s.sz + 1, s.h⟩ = some ⟨mkE [s.sz] [v], s.sz + 1, ⟨Tr.ofList os 0 .leaf, L.length, s.h.wr⟩⟩ := by
     have hvs : gcVs (posOf L) (s.e.set s.sz (one vs)) [s.sz] = some [v] := by
      simp only [gcVs, Tr.get_set_eq, g3, Option.map_some]
     unfold gc
     rw [if_pos h1, gcE_mk hvs, h3]
    have hl : os.length = L.length := (gcH_some h3).1
    obtain ⟨β1, hR1', hE1'⟩ := gc_sound hg rfl hr hw hR2 hE''
    rw [<-hl] at hR1' hE1'
    subst g4
    have he1 := hR1'.he s.sz v (by
     show (mkE [s.sz] [v]).get s.sz = some v
     simp only [mkE, Tr.get_set_eq])
    obtain ⟨v2, p1, p2⟩ := he1
    have hv2 : v2 = v' := by
     have : (a'.tmps.push v')[s.sz]? = some v2 := p1
     rw [<-hR.sz, Array.getElem?_push_size] at this
     exact (Option.some.inj this).symm
    subst hv2
    exact ⟨v2, k1, v2, β1, rfl, p2, hR1'.hr.wr, hR1'.hw.wr, hE1'.lower (Nat.le_of_ble_eq_true h4)⟩
   rcases hex with rfl | rfl
   ·exact hgoal
   ·exact hgoal
  have hg : gc h.next L slots s = some ⟨mkE slots vals, s.sz, ⟨Tr.ofList os 0 .leaf, L.length, s.h.wr⟩⟩ := by
   unfold gc
   rw [if_pos h1, gcE_mk h2, h3]
  have hl : os.length = L.length := (gcH_some h3).1
  obtain ⟨β1, hR1', hE1'⟩ := gc_sound hg rfl hr hw hR hE
  rw [<-hl] at hR1' hE1'
  have hR1 : Rst w.heap.size β1 (cst s.sz slots vals os wl) a' w' := ⟨hR1'.hr.wr, hR1'.hw.wr, hR1'.he, hR1'.sz, hR1'.hd⟩
  have hE1 : Evo β h w β1 (cst s.sz slots vals os wl).h w' := hE1'.lower (Nat.le_of_ble_eq_true h4)
  have hgoal : LeavesInM F.plain m P fn a'.tmps (Ends' β h w v h') a'.defers .returning w' := by
   obtain ⟨bs, b1, b2, b3⟩ := hR1.hd.ex
   rw [b1]
   refine leaves_sound bs w' b2 b3 hR1.hr hE1 fun w'' hr'' hE'' => ?_
   obtain ⟨v', k1, k2⟩ := results_sound hr'' hR1.hw hR1.he g2
   subst g3; subst g4
   exact ⟨v', k1, v', β1, rfl, k2, hr'', hR1.hw, hE''⟩
  rcases hex with rfl | rfl
  ·exact hgoal
  ·exact hgoal
 exact key
end
end Go.AM
namespace Go.AM
inductive Lk where
 | bool
 | int (k : IntKind)
 | str
 deriving DecidableEq
def Lk.ok : Lk -> Value -> Bool
 | .bool, .bool _ => true
 | .int k, .int k' _ => decide (k = k')
 | .str, .string _ => true
 | _, _ => false
def cf : List Lk -> List Value -> Bool
 | [], [] => true
 | k :: ks, v :: vs => k.ok v && cf ks vs
 | _, _ => false
theorem Lk.ok_free {k : Lk} {v : Value} (h : k.ok v = true) : free0 v = true := by
 cases k <;> cases v <;> first | rfl | cases h
theorem cf_len : ∀ {ks : List Lk} {vs : List Value}, cf ks vs = true -> vs.length = ks.length
 | [], [], _ => rfl
 | [], _ :: _, h => by cases h
 | _ :: _, [], h => by cases h
 | k :: ks, v :: vs, h => by
  simp only [cf, Bool.and_eq_true] at h
  simp only [List.length_cons, cf_len h.2]
theorem cf_free0 : ∀ {ks : List Lk} {vs : List Value}, cf ks vs = true -> vs.all free0 = true
 | [], [], _ => rfl
 | [], _ :: _, h => by cases h
 | _ :: _, [], h => by cases h
 | k :: ks, v :: vs, h => by
  simp only [cf, Bool.and_eq_true] at h
  simp only [List.all_cons, Lk.ok_free h.1, cf_free0 h.2, Bool.and_self]
theorem cf_drop : ∀ (n : Nat) {ks : List Lk} {vs : List Value}, cf ks vs = true -> cf (ks.drop n) (vs.drop n) = true
 | 0, _, _, h => h
 | _ + 1, [], [], _ => rfl
 | _ + 1, [], _ :: _, h => by cases h
 | _ + 1, _ :: _, [], h => by cases h
 | n + 1, k :: ks, v :: vs, h => by
  simp only [cf, Bool.and_eq_true] at h
  exact cf_drop n h.2
theorem cf_take : ∀ (n : Nat) {ks : List Lk} {vs : List Value}, cf ks vs = true -> cf (ks.take n) (vs.take n) = true
 | 0, _, _, _ => rfl
 | _ + 1, [], [], _ => rfl
 | _ + 1, [], _ :: _, h => by cases h
 | _ + 1, _ :: _, [], h => by cases h
 | n + 1, k :: ks, v :: vs, h => by
  simp only [cf, Bool.and_eq_true] at h
  simp only [List.take_succ_cons, cf, h.1, cf_take n h.2, Bool.and_self]
theorem cf_append : ∀ {ks ks' : List Lk} {vs vs' : List Value}, cf ks vs = true -> cf ks' vs' = true -> cf (ks ++ ks') (vs ++ vs') = true
 | [], _, [], _, _, h' => h'
 | [], _, _ :: _, _, h, _ => by cases h
 | _ :: _, _, [], _, h, _ => by cases h
 | k :: ks, _, v :: vs, _, h, h' => by
  simp only [cf, Bool.and_eq_true] at h
  simp only [List.cons_append, cf, h.1, cf_append h.2 h', Bool.and_self]
def ints (l : List Int) : List Value := l.map (.int .i64)
theorem ints_len (l : List Int) : (ints l).length = l.length := List.length_map ..
theorem ints_append (l m : List Int) : ints (l ++ m) = ints l ++ ints m := List.map_append
def ith (l : List Int) (i : Int) : Int := l.getD i.toNat 0
theorem ints_at {l : List Int} {i : Nat} (h : i < l.length) : ((ints l).drop i).take 1 = [.int .i64 (l.getD i 0)] := by
 have h' : i < (ints l).length := by rw [ints_len]; exact h
 rw [List.drop_eq_getElem_cons h']
 simp only [List.take_succ_cons, List.take_zero, ints, List.getElem_map]
 rw [List.getD_eq_getElem?_getD, List.getElem?_eq_getElem h]
 rfl
section bin
variable {P : Program} {t : TypeId} {xo yo : Operand} {k : IntKind} {a b : Int}
theorem b_add : binV P .add t xo yo (.int k a) (.int k b) = some (.int k (k.wrap (a + b))) := by cases k <;> rfl
theorem b_sub : binV P .sub t xo yo (.int k a) (.int k b) = some (.int k (k.wrap (a - b))) := by cases k <;> rfl
theorem b_mul : binV P .mul t xo yo (.int k a) (.int k b) = some (.int k (k.wrap (a * b))) := by cases k <;> rfl
theorem quick_quo (h : b ≠ 0) : quick P (Op.intDiv .quo k a b) = some (.int k (k.wrap (a.tdiv b))) := by unfold Op.intDiv; rw [if_neg h]; rfl
theorem quick_rem (h : b ≠ 0) : quick P (Op.intDiv .rem k a b) = some (.int k (a.tmod b)) := by unfold Op.intDiv; rw [if_neg h]; rfl
theorem b_quo (h : b ≠ 0) : binV P .quo t xo yo (.int k a) (.int k b) = some (.int k (k.wrap (a.tdiv b))) := by
 have e : binV P .quo t xo yo (.int k a) (.int k b) = keep (quick P (Op.intDiv .quo k a b)) := by cases k <;> rfl
 rw [e, quick_quo h]; rfl
theorem b_rem (h : b ≠ 0) : binV P .rem t xo yo (.int k a) (.int k b) = some (.int k (a.tmod b)) := by
 have e : binV P .rem t xo yo (.int k a) (.int k b) = keep (quick P (Op.intDiv .rem k a b)) := by cases k <;> rfl
 rw [e, quick_rem h]; rfl
theorem b_eql : binV P .eql t xo yo (.int k a) (.int k b) = some (.bool (decide (a = b))) := by cases k <;> rfl
theorem b_neq : binV P .neq t xo yo (.int k a) (.int k b) = some (.bool (!decide (a = b))) := by cases k <;> rfl
theorem b_lss : binV P .lss t xo yo (.int k a) (.int k b) = some (.bool (decide (a < b))) := by cases k <;> rfl
theorem b_leq : binV P .leq t xo yo (.int k a) (.int k b) = some (.bool (decide (a <= b))) := by cases k <;> rfl
theorem b_gtr : binV P .gtr t xo yo (.int k a) (.int k b) = some (.bool (decide (b < a))) := by cases k <;> rfl
theorem b_geq : binV P .geq t xo yo (.int k a) (.int k b) = some (.bool (decide (b <= a))) := by cases k <;> rfl
theorem b_shr {k' : IntKind} (h : 0 <= b) : binV P .shr t xo yo (.int k a) (.int k' b) = some (.int k (a.fdiv (2 ^ (min b.toNat k.bits)))) := by
 have e : binV P .shr t xo yo (.int k a) (.int k' b) = keep (quick P (Op.shift .shr k a k' b)) := by cases k <;> cases k' <;> rfl
 rw [e]
 unfold Op.shift
 rw [if_neg ow]
 rfl
theorem run_und {u : TypeDesc} (h : P.underlying t = some u) : quick P (underlying t) = some u := by
 have e : quick P (underlying t) = quick P (match P.underlying t with | some d => pure d | none => stuck _) := rfl
 rw [e, h]; rfl
theorem c_int {s d : TypeId} {k' : IntKind} {u : TypeDesc} (hs : P.underlying s = some u) (hd : P.underlying d = some (.int k')) : quick P (convert s d (.int k a)) = some (.int k' (k'.wrap a)) := by
 unfold convert
 rw [quick_bind, run_und hs, Option.bind_some, quick_bind, run_und hd, Option.bind_some]
 cases u <;> rfl
end bin
end Go.AM
namespace Go.AM
theorem q_bind {α γ : Type} {P : Program} {s : Sem α} {f : α -> Sem γ} {a : α} (h : quick P s = some a) : quick P (s >>= f) = quick P (f a) := by rw [quick_bind, h]; rfl
theorem q_pure {α : Type} {P : Program} (a : α) : quick P (pure a) = some a := rfl
theorem q_program {P : Program} : quick P program = some P := rfl
theorem q_info {P : Program} {t : TypeId} {i : TypeInfo} (h : P.info? t = some i) : quick P (typeInfo t) = some i := by
 have e : quick P (typeInfo t) = quick P (match P.info? t with | some d => pure d | none => stuck _) := rfl
 rw [e, h]; rfl
theorem q_size {P : Program} {t : TypeId} {k : Nat} (h : szOf P t = some k) : quick P (sizeOf t) = some k := by
 unfold szOf at h
 cases hi : P.info? t with
 | none => rw [hi] at h; cases h
 | some i =>
  rw [hi] at h
  unfold sizeOf
  rw [q_bind (q_info hi), q_pure]
  exact h
theorem q_isAgg {P : Program} {t : TypeId} {b : Bool} (h : aggOf P t = some b) : quick P (isAgg t) = some b := by
 unfold aggOf at h
 unfold isAgg
 split at h
 ·rename_i hu; rw [q_bind (run_und hu)]; exact h
 ·rename_i hu; rw [q_bind (run_und hu)]; exact h
 ·rename_i u hn1 hn2 hu
  rw [q_bind (run_und hu)]
  cases u with
  | struct fs => exact absurd rfl (hn1 fs)
  | array n e => exact absurd rfl (hn2 n e)
  | _ => exact h
 ·cases h
def flatFs (P : Program) (g : TypeId -> Option (List Lk)) : List Field -> Nat -> Option (List Lk)
 | [], _ => some []
 | f :: fs, off =>
  match g f.type, szOf P f.type with
  | some ks, some k => if f.name ≠ "_" /\ f.offset = off /\ ks.length = k then (flatFs P g fs (off + k)).map (ks ++ ·) else none
  | _, _ => none
def flatTy (P : Program) : Nat -> TypeId -> Option (List Lk)
 | 0, _ => none
 | d + 1, t =>
  match P.underlying t with
  | some .bool => some [.bool]
  | some (.int k) => some [.int k]
  | some .string => some [.str]
  | some (.struct fs) => if P.stoodInHeld t then none else flatFs P (flatTy P d) fs.toList 0
  | some (.array n e) =>
   match flatTy P d e, szOf P e with
   | some ks, some k => if ks.length = k then some (List.replicate n ks).flatten else none
   | _, _ => none
  | _ => none
def eqC : Value -> Value -> Bool
 | .bool a, .bool b => a == b
 | .int k a, .int k' b => decide (k = k') && decide (a = b)
 | .string a, .string b => a.toList == b.toList
 | _, _ => false
def eqCs : List Value -> List Value -> Bool
 | [], [] => true
 | x :: xs, y :: ys => eqC x y && eqCs xs ys
 | _, _ => false
theorem eqCs_append : ∀ {xs ys xs' ys' : List Value}, xs.length = ys.length -> eqCs (xs ++ xs') (ys ++ ys') = (eqCs xs ys && eqCs xs' ys')
 | [], [], _, _, _ => by simp [eqCs]
 | [], _ :: _, _, _, h => by simp at h
 | _ :: _, [], _, _, h => by simp at h
 | x :: xs, y :: ys, _, _, h => by
  simp only [List.cons_append, eqCs, eqCs_append (xs := xs) (ys := ys) (by simpa using h), Bool.and_assoc]
def packV (P : Program) (t : TypeId) (cs : List Value) : Option Value :=
 match aggOf P t, cs with
 | some true, cs => some (.agg ⟨cs⟩)
 | some false, [v] => some v
 | _, _ => none
def EqQ (P : Program) (d : Nat) (t : TypeId) (ks : List Lk) : Prop :=
 ∀ xs ys x y, cf ks xs = true -> cf ks ys = true -> packV P t xs = some x -> packV P t ys = some y -> quick P (Op.equalIn d t x y) = some (eqCs xs ys)
theorem q_part {P : Program} {t : TypeId} {cs : List Value} {off k : Nat} {v : Value} (hk : szOf P t = some k) (hv : packV P t ((cs.drop off).take k) = some v) (hl : off + k <= cs.length) :
  quick P (part t ⟨cs⟩ off) = some v := by
 unfold packV at hv
 unfold part
 split at hv
 ·rename_i ha
  cases hv
  rw [q_bind (q_isAgg ha)]
  simp only [if_true]
  rw [q_bind (q_size hk), q_pure]
  congr 2
  apply Array.ext'
  simp only [Array.toList_extract]
  rw [List.extract_eq_take_drop, Nat.add_sub_cancel_left]
 ·rename_i u ha he
  cases hv
  rw [q_bind (q_isAgg ha)]
  simp only [Bool.false_eq_true, if_false]
  have h1 : 0 < k := by
   rcases k with _ | k
   ·simp at he
   ·omega
  have : cs[off]? = some v := by
   have h2 : ((cs.drop off).take k)[0]? = some v := by rw [he]; rfl
   rw [List.getElem?_take_of_lt h1, List.getElem?_drop] at h2
   simpa using h2
  simp only [List.getElem?_toArray, this]
  rfl
 ·cases hv
theorem q_eqFields {P : Program} (d : Nat) (xs ys : Array Value) (fs : List Field) :
  quick P (do
   for f in fs do
    if f.name ≠ "_" then
     if !(← Op.equalIn d f.type (← part f.type xs f.offset) (← part f.type ys f.offset)) then return false
   pure true) = quick P (Op.eqFields d xs ys fs) := by
 induction fs with
 | nil => rfl
 | cons f fs ih =>
  simp only [List.forIn_cons, Op.eqFields, bind_assoc]
  split
  ·simp only [bind_assoc, quick_bind]
   cases quick P (part f.type xs f.offset) with
   | none => rfl
   | some a =>
    simp only [Option.bind_some]
    cases quick P (part f.type ys f.offset) with
    | none => rfl
    | some b =>
     simp only [Option.bind_some]
     cases quick P (Op.equalIn d f.type a b) with
     | none => rfl
     | some r =>
      cases r
      ·rfl
      ·simp only [Option.bind_some, Bool.not_true, Bool.false_eq_true, if_false, q_pure, quick_bind] at ih ⊢
       exact ih
  ·simp only [quick_bind, q_pure, Option.bind_some] at ih ⊢
   exact ih
theorem q_eqItems {P : Program} (d : Nat) (e : TypeId) (n : Nat) (xs ys : Array Value) (is : List Nat) :
  quick P (do
   for i in is do
    if !(← Op.equalIn d e (← part e xs (i * n)) (← part e ys (i * n))) then return false
   pure true) = quick P (Op.eqItems d e n xs ys is) := by
 induction is with
 | nil => rfl
 | cons f fs ih =>
  simp only [List.forIn_cons, Op.eqItems, bind_assoc, quick_bind]
  cases quick P (part e xs (f * n)) with
  | none => rfl
  | some a =>
   simp only [Option.bind_some]
   cases quick P (part e ys (f * n)) with
   | none => rfl
   | some b =>
    simp only [Option.bind_some]
    cases quick P (Op.equalIn d e a b) with
    | none => rfl
    | some r =>
     cases r
     ·rfl
     ·simp only [Option.bind_some, Bool.not_true, Bool.false_eq_true, if_false, q_pure, quick_bind] at ih ⊢
      exact ih
theorem part_at {P : Program} {d : Nat} {t : TypeId} {ks : List Lk} (hd : flatTy P d t = some ks) {cs : List Value} (hc : cf ks cs = true) :
  ∃ v, packV P t cs = some v := by
 cases d with
 | zero => cases hd
 | succ d =>
  unfold flatTy at hd
  unfold packV aggOf
  have one : ∀ k0, ks = [k0] -> ∃ v, cs = [v] := fun k0 e => by
   subst e
   have := cf_len hc
   match cs, this with
   | [v], _ => exact ⟨v, rfl⟩
  split at hd
  ·rename_i hu; cases hd; obtain ⟨v, rfl⟩ := one _ rfl; rw [hu]; exact ⟨_, rfl⟩
  ·rename_i hu; cases hd; obtain ⟨v, rfl⟩ := one _ rfl; rw [hu]; exact ⟨_, rfl⟩
  ·rename_i hu; cases hd; obtain ⟨v, rfl⟩ := one _ rfl; rw [hu]; exact ⟨_, rfl⟩
  ·rename_i hu; rw [hu]; exact ⟨_, rfl⟩
  ·rename_i hu; rw [hu]; exact ⟨_, rfl⟩
  ·cases hd
theorem eqFields_flat {P : Program} {d D : Nat} (ih : ∀ t ks, flatTy P d t = some ks -> EqQ P D t ks) : ∀ (fs : List Field) (off : Nat) (ks : List Lk), flatFs P (flatTy P d) fs off = some ks →
  ∀ (xs ys : List Value), off + ks.length = xs.length -> off + ks.length = ys.length -> cf ks (xs.drop off) = true -> cf ks (ys.drop off) = true →
  quick P (Op.eqFields D ⟨xs⟩ ⟨ys⟩ fs) = some (eqCs (xs.drop off) (ys.drop off))
 | [], off, ks, h, xs, ys, h1, h2, _, _ => by
  cases h
  simp only [List.length_nil, Nat.add_zero] at h1 h2
  rw [List.drop_eq_nil_of_le ow, List.drop_eq_nil_of_le ow]
  rfl
 | f :: fs, off, ks, h, xs, ys, h1, h2, c1, c2 => by
  simp only [flatFs] at h
  split at h
  case h_2 => cases h
  rename_i kf k hf hk
  split at h
  case isFalse => cases h
  rename_i hc
  obtain ⟨hn, ho, hl⟩ := hc
  obtain ⟨kr, h3, h4⟩ := map_inv' h
  subst h4
  simp only [List.length_append] at h1 h2
  have g : ∀ (zs : List Value), off + (kf.length + kr.length) = zs.length -> cf (kf ++ kr) (zs.drop off) = true -> cf kf ((zs.drop off).take k) = true /\ cf kr (zs.drop (off + k)) = true := by
   intro zs hz hcz
   have p1 := cf_take k hcz
   have p2 := cf_drop k hcz
   rw [List.take_append_of_le_length ow, List.take_of_length_le ow] at p1
   rw [List.drop_append_of_le_length ow, List.drop_eq_nil_of_le ow, List.nil_append, List.drop_drop] at p2
   exact ⟨p1, p2⟩
  obtain ⟨x1, x2⟩ := g xs h1 c1
  obtain ⟨y1, y2⟩ := g ys h2 c2
  obtain ⟨vx, hx⟩ := part_at hf x1
  obtain ⟨vy, hy⟩ := part_at hf y1
  have e1 := q_part (cs := xs) (off := off) hk hx ow
  have e2 := q_part (cs := ys) (off := off) hk hy ow
  rw [<-ho] at e1 e2
  have e3 := ih _ _ hf _ _ _ _ x1 y1 hx hy
  have e4 := eqFields_flat ih fs (off + k) kr h3 xs ys ow ow x2 y2
  simp only [Op.eqFields, hn, ne_eq, not_false_eq_true, if_true]
  rw [q_bind e1, q_bind e2, q_bind e3]
  have s1 : xs.drop off = (xs.drop off).take k ++ xs.drop (off + k) := by rw [<-List.drop_drop, List.take_append_drop]
  have s2 : ys.drop off = (ys.drop off).take k ++ ys.drop (off + k) := by rw [<-List.drop_drop, List.take_append_drop]
  have e5 : eqCs (xs.drop off) (ys.drop off) = (eqCs ((xs.drop off).take k) ((ys.drop off).take k) && eqCs (xs.drop (off + k)) (ys.drop (off + k))) := by
   conv => lhs; rw [s1, s2]
   exact eqCs_append (by rw [cf_len x1, cf_len y1])
  rw [e5]
  cases eqCs ((xs.drop off).take k) ((ys.drop off).take k)
  ·rfl
  ·simp only [Bool.not_true, Bool.false_eq_true, if_false, Bool.true_and]
   exact e4
theorem eqItems_flat {P : Program} {d D : Nat} {t : TypeId} {kf : List Lk} {k : Nat} (hf : flatTy P d t = some kf) (hk : szOf P t = some k) (hl : kf.length = k) (ih : EqQ P D t kf) :
  ∀ (n s : Nat) (xs ys : List Value), (s + n) * k = xs.length -> (s + n) * k = ys.length -> cf (List.replicate n kf).flatten (xs.drop (s * k)) = true -> cf (List.replicate n kf).flatten (ys.drop (s * k)) = true →
  quick P (Op.eqItems D t k ⟨xs⟩ ⟨ys⟩ (List.range' s n)) = some (eqCs (xs.drop (s * k)) (ys.drop (s * k)))
 | 0, s, xs, ys, h1, h2, _, _ => by
  simp only [Nat.add_zero] at h1 h2
  rw [List.drop_eq_nil_of_le ow, List.drop_eq_nil_of_le ow]
  rfl
 | n + 1, s, xs, ys, h1, h2, c1, c2 => by
  have e0 : (s + (n + 1)) * k = s * k + k + n * k := by simp only [Nat.add_mul, Nat.one_mul]; omega
  have e0' : (s + 1) * k = s * k + k := by simp only [Nat.add_mul, Nat.one_mul]
  have er : (s + 1 + n) * k = s * k + k + n * k := by simp only [Nat.add_mul, Nat.one_mul]
  rw [e0] at h1 h2
  have hr : ((List.replicate n kf).flatten).length = n * k := by
   simp [hl]
  rw [List.replicate_succ, List.flatten_cons] at c1 c2
  have g : ∀ (zs : List Value), s * k + k + n * k = zs.length -> cf (kf ++ (List.replicate n kf).flatten) (zs.drop (s * k)) = true -> cf kf ((zs.drop (s * k)).take k) = true /\ cf (List.replicate n kf).flatten (zs.drop ((s + 1) * k)) = true := by
   intro zs hz hcz
   have p1 := cf_take k hcz
   have p2 := cf_drop k hcz
   rw [List.take_append_of_le_length ow, List.take_of_length_le ow] at p1
   rw [List.drop_append_of_le_length ow, List.drop_eq_nil_of_le ow, List.nil_append, List.drop_drop, <-e0'] at p2
   exact ⟨p1, p2⟩
  obtain ⟨x1, x2⟩ := g xs h1 c1
  obtain ⟨y1, y2⟩ := g ys h2 c2
  obtain ⟨vx, hx⟩ := part_at hf x1
  obtain ⟨vy, hy⟩ := part_at hf y1
  have e1 := q_part (cs := xs) (off := s * k) hk hx ow
  have e2 := q_part (cs := ys) (off := s * k) hk hy ow
  have e3 := ih _ _ _ _ x1 y1 hx hy
  have e4 := eqItems_flat hf hk hl ih n (s + 1) xs ys ow ow x2 y2
  simp only [List.range'_succ, Op.eqItems]
  rw [q_bind e1, q_bind e2, q_bind e3]
  have s1 : xs.drop (s * k) = (xs.drop (s * k)).take k ++ xs.drop ((s + 1) * k) := by rw [e0', <-List.drop_drop, List.take_append_drop]
  have s2 : ys.drop (s * k) = (ys.drop (s * k)).take k ++ ys.drop ((s + 1) * k) := by rw [e0', <-List.drop_drop, List.take_append_drop]
  have e5 : eqCs (xs.drop (s * k)) (ys.drop (s * k)) = (eqCs ((xs.drop (s * k)).take k) ((ys.drop (s * k)).take k) && eqCs (xs.drop ((s + 1) * k)) (ys.drop ((s + 1) * k))) := by
   conv => lhs; rw [s1, s2]
   exact eqCs_append (by rw [cf_len x1, cf_len y1])
  rw [e5]
  cases eqCs ((xs.drop (s * k)).take k) ((ys.drop (s * k)).take k)
  ·rfl
  ·simp only [Bool.not_true, Bool.false_eq_true, if_false, Bool.true_and]
   exact e4
theorem eq_flat {P : Program} : ∀ (d : Nat) (t : TypeId) (ks : List Lk), flatTy P d t = some ks -> ∀ D, EqQ P (D + d) t ks
 | 0, _, _, h => by cases h
 | d + 1, t, ks, h => by
  intro D xs ys x y cx cy px py
  have ih : ∀ t ks, flatTy P d t = some ks -> EqQ P (D + d) t ks := fun t ks h => eq_flat d t ks h D
  have one : ∀ k0 : Lk, ks = [k0] -> ∀ zs, cf ks zs = true -> ∃ v, zs = [v] /\ k0.ok v = true := fun k0 e zs hc => by
   subst e
   have := cf_len hc
   match zs, this, hc with
   | [v], _, hc => exact ⟨v, rfl, by simpa [cf] using hc⟩
  unfold flatTy at h
  unfold packV aggOf at px py
  show quick P (Op.equalIn (D + d + 1) t x y) = _
  split at h
  ·rename_i hu
   cases h
   rw [hu] at px py
   obtain ⟨a, rfl, ha⟩ := one _ rfl xs cx
   obtain ⟨b, rfl, hb⟩ := one _ rfl ys cy
   cases px; cases py
   cases x <;> first | cases ha | skip
   cases y <;> first | cases hb | skip
   unfold Op.equalIn
   rw [q_bind (run_und hu)]
   simp only [q_pure, eqCs, eqC, Bool.and_true]
  ·rename_i k hu
   cases h
   rw [hu] at px py
   obtain ⟨a, rfl, ha⟩ := one _ rfl xs cx
   obtain ⟨b, rfl, hb⟩ := one _ rfl ys cy
   cases px; cases py
   cases x <;> first | cases ha | skip
   cases y <;> first | cases hb | skip
   rename_i k1 n1 k2 n2
   simp only [Lk.ok, decide_eq_true_eq] at ha hb
   subst ha; subst hb
   unfold Op.equalIn
   rw [q_bind (run_und hu)]
   simp only [if_true, q_pure, eqCs, eqC, Bool.and_true, decide_true, Bool.true_and]
   rfl
  ·rename_i hu
   cases h
   rw [hu] at px py
   obtain ⟨a, rfl, ha⟩ := one _ rfl xs cx
   obtain ⟨b, rfl, hb⟩ := one _ rfl ys cy
   cases px; cases py
   cases x <;> first | cases ha | skip
   cases y <;> first | cases hb | skip
   unfold Op.equalIn
   rw [q_bind (run_und hu)]
   simp only [q_pure, eqCs, eqC, Bool.and_true, beq_toListBytes]
  ·rename_i fs hu
   split at h
   ·cases h
   rename_i hs
   rw [hu] at px py
   cases px; cases py
   have hl := cf_len cx
   have hl' := cf_len cy
   unfold Op.equalIn
   rw [q_bind (run_und hu), q_bind q_program]
   simp only [hs, Bool.false_eq_true, if_false]
   rw [<-Array.forIn_toList, q_eqFields]
   exact eqFields_flat ih fs.toList 0 ks h xs ys ow ow (by simpa using cx) (by simpa using cy)
  ·rename_i n e hu
   split at h
   case h_2 => cases h
   rename_i kf k hf hk
   split at h
   case isFalse => cases h
   rename_i hlk
   cases h
   rw [hu] at px py
   cases px; cases py
   have hl := cf_len cx
   have hl' := cf_len cy
   have hr : ((List.replicate n kf).flatten).length = n * k := by
    simp [hlk]
   unfold Op.equalIn
   rw [q_bind (run_und hu), q_bind (q_size hk)]
   simp only [Std.Legacy.Range.forIn_eq_forIn_range', Std.Legacy.Range.size, Nat.sub_zero, Nat.add_one_sub_one, Nat.div_one]
   rw [q_eqItems]
   have := eqItems_flat hf hk hlk (ih _ _ hf) n 0 xs ys (by simp; omega) (by simp; omega) (by simpa using cx) (by simpa using cy)
   simpa using this
  ·cases h
section
variable {P : Program} {t : TypeId} {xo yo : Operand} {ks : List Lk} {a b : List Value} {d : Nat}
theorem b_eqlS {x y : ByteArray} : binV P .eql t xo yo (.string x) (.string y) = some (.bool (eqC (.string x) (.string y))) := rfl
end
end Go.AM
namespace Go.AM
section loads
variable {h : AH} {id : Nat} {f : Fam} {L : List (List Value)} {ks : List Lk} {K : Nat} {i : Int} {a k : Nat} {l : List Int} {cs : List Value}
theorem l_fam (hf : h.fam id = some f) (off k : Nat) (h1 : f.lo <= off /\ off + k <= f.rb id) : loadC h id off k = some ((f.data.drop off).take k) := by
 unfold loadC; rw [hf]; simp only; rw [if_pos h1]
structure Whole (h : AH) (id : Nat) (d : List Value) : Prop where
 ex : ∃ f, h.fam id = some f /\ f.lo = 0 /\ f.data = d /\ f.rb id = d.length
theorem l_whole {d : List Value} (hw : Whole h id d) (off k : Nat) (h1 : off + k <= d.length) : loadC h id off k = some ((d.drop off).take k) := by
 obtain ⟨f, k1, k2, k3, k4⟩ := hw.ex
 rw [<-k3]
 exact l_fam k1 off k ⟨by omega, by omega⟩
theorem l_all {d : List Value} (hw : Whole h id d) {k : Nat} (h1 : k = d.length) : loadC h id 0 k = some d := by
 rw [l_whole hw 0 k ow, List.drop_zero, List.take_of_length_le ow]
theorem l_ints (hw : Whole h id (ints l)) (h0 : 0 <= i) (h1 : i < l.length) : loadC h id (0 + i.toNat * 1) 1 = some [.int .i64 (ith l i)] := by
 have hl := ints_len l
 rw [Nat.zero_add, Nat.mul_one, l_whole hw _ _ ow, ints_at ow]
 rfl
end loads
theorem setFold : ∀ (vs : List Value) (j : Nat) (pre z : List Value), z.length = vs.length -> pre.length = j -> ((vs.zipIdx j).foldl (fun (cs : Array Value) (p : Value × Nat) => cs.setIfInBounds p.2 p.1) ⟨pre ++ z⟩) = ⟨pre ++ vs⟩
 | [], j, pre, z, hz, _ => by
  have : z = [] := List.eq_nil_of_length_eq_zero (by simpa using hz)
  subst this; rfl
 | v :: vs, j, pre, z0 :: z, hz, hp => by
  simp only [List.zipIdx_cons, List.foldl_cons]
  have e : (⟨pre ++ z0 :: z⟩ : Array Value).setIfInBounds j v = ⟨(pre ++ [v]) ++ z⟩ := by
   apply Array.ext'
   rw [Array.toList_setIfInBounds]
   simp only
   rw [List.set_append_right _ _ ow, hp, Nat.sub_self]
   simp
  rw [e, setFold vs (j + 1) (pre ++ [v]) z (by simpa using hz) (by simp [hp])]
  simp
theorem fill_all {z cs : List Value} {va : Array Value} (hl : cs.length = z.length) (hc : va.toList = cs) :
  va.zipIdx.foldl (fun (cs : Array Value) (x : Value × Nat) => cs.setIfInBounds x.2 x.1) (⟨z⟩ : Array Value) = ⟨cs⟩ := by
 have := setFold cs 0 [] z hl.symm rfl
 rw [<-Array.foldl_toList, Array.toList_zipIdx, hc]
 simpa using this
section ops
variable {P : Program} {call : Call'} {e : Tr Value} {h h' : AH} {o : Oper} {t el : TypeId} {x i p : Operand} {id off len cap sz k m : Nat} {n : Int} {κ : IntKind} {v : Value} {cs old news d : List Value} {s : Value} {c : Call}
theorem do_op (ho : ∀ c, o.op ≠ .call c) : doOp P call e h o = aop P e h o.op := by
 unfold doOp
 split
 ·rename_i c hc; exact absurd hc (ho c)
 ·rfl
theorem x_index (ho : o.op = .indexAddr t x i) (hx : ev e x = some (.slice (some ⟨id, off, none⟩) len cap)) (hi : ev e i = some (.int κ n)) (hu : P.underlying t = some (.slice el)) (hs : szOf P el = some sz)
  (h0 : 0 <= n) (h1 : n < len) : doOp P call e h o = some (.pointer (some ⟨id, off + n.toNat * sz, none⟩), h) := by
 rw [do_op (by rw [ho]; simp), ho]
 simp only [aop, hx, hi, indexAddrV, hu, hs, if_pos (And.intro h0 h1), Option.map_some]
theorem x_loadA (ho : o.op = .load t x) (hx : ev e x = some (.pointer (some ⟨id, off, none⟩))) (hg : aggOf P t = some true) (hs : szOf P t = some k) (hl : loadC h id off k = some cs) :
  doOp P call e h o = some (.agg ⟨cs⟩, h) := by
 rw [do_op (by rw [ho]; simp), ho]
 simp only [aop, hx, loadV, hg, hs, hl, Option.map_some]
theorem x_load1 (ho : o.op = .load t x) (hx : ev e x = some (.pointer (some ⟨id, off, none⟩))) (hg : aggOf P t = some false) (hl : loadC h id off 1 = some [v]) :
  doOp P call e h o = some (v, h) := by
 rw [do_op (by rw [ho]; simp), ho]
 simp only [aop, hx, loadV, hg, hl, Option.map_some]
theorem x_len {ad : Option Addr} (ho : o.op = .call c) (hc : c.callee = .builtin .len) (ha : evs e c.args.toList = some [.slice ad len cap]) (ht : c.argTypes[0]? = some t) (hu : P.underlying t = some (.slice el)) :
  doOp P call e h o = some (.int .i64 len, h) := by
 unfold doOp
 rw [ho]
 simp only [doCall, ha, hc, abuiltin, lenV, ht, hu, Option.map_some]
 rfl
def TyI (P : Program) (el : TypeId) (sz by' : Nat) : Prop := ∃ i, P.info? el = some i /\ i.size = sz /\ i.bytes = by' /\ i.zero.map (fun z => z.cells.size) = some sz
theorem a_nil {by' : Nat} (hu : P.underlying t = some (.slice el)) (hi : TyI P el sz by') (h0 : 0 < sz) (hn : news.length = m * sz) (hb : 2 * m * by' <= 281474976710656) (hm : m < BIG) (ho : news.all oneC = true) (hm0 : 0 < m) (hM : sz < 4294967296 := by decide) :
  appendV P h t (.slice none 0 0) m news = some (.slice (some ⟨h.next, 0, none⟩) m (m + sz), ⟨h.t.set h.next (.row news h.next BIG false news.length), h.next + 1, h.wr⟩) := by
 obtain ⟨i, i1, i2, i3, i4⟩ := hi
 subst i2; subst i3
 unfold appendV
 simp only [hu, i1, Nat.zero_add]
 rw [if_pos ⟨h0, hn, hb, hm, ho, i4, hM⟩, if_neg ow]
 simp only [and_self, if_true]
 rfl
theorem x_append (ho : o.op = .call c) (hc : c.callee = .builtin .append) (ha : evs e c.args.toList = some [s, v]) {u : TypeId} {x' : Value} (ht : c.argTypes[0]? = some t) (ht1 : c.argTypes[1]? = some u) (hu : isIntT P u = false)
  (hcell : cellsV P h t v = some (m, cs)) (happ : appendV P h t s m cs = some (x', h')) : doOp P call e h o = some (x', h') := by
 unfold doOp
 rw [ho]
 simp only [doCall, ha, hc, abuiltin, ht, ht1, hu, hcell, happ, Bool.false_eq_true, if_false]
theorem x_appendZ (ho : o.op = .call c) (hc : c.callee = .builtin .append) {n : Int} (ha : evs e c.args.toList = some [s, .int .i64 n]) {u : TypeId} {k0 : IntKind} {x' z : Value} {j : TypeInfo} (ht : c.argTypes[0]? = some t) (ht1 : c.argTypes[1]? = some u) (hui : P.underlying u = some (.int k0)) (hut : P.underlying t = some (.slice el)) (hj : P.info? el = some j) (hz : j.zero = some z) (hzf : free1 z = true) (h0 : 0 <= n) (h1 : n <= 4611686018427387904) (h2 : n * j.bytes <= 281474976710656)
  (happ : appendV P h t s n.toNat (zerosC z.cells.toList n.toNat) = some (x', h')) : doOp P call e h o = some (x', h') := by
 have hi : isIntT P u = true := by unfold isIntT; rw [hui]
 have hzv : zerosV P t u (.int .i64 n) = some (n.toNat, zerosC z.cells.toList n.toNat) := by
  unfold zerosV
  simp only [hui, hut, hj, hz]
  rw [if_pos ⟨hzf, h0, h1, h2⟩]
 unfold doOp
 rw [ho]
 simp only [doCall, ha, hc, abuiltin, ht, ht1, hi, hzv, happ, if_true]
theorem whole_row {low n0 : Nat} {ro : Bool} (hr : h.t.get id = some (.row d id low ro n0)) (hn : n0 = d.length) : Whole h id d :=
 ⟨_, fam_row hr, rfl, rfl, by simp only [Fam.rb, if_true]; exact hn⟩
theorem splice_all {d vs : List Value} (hl : vs.length = d.length) : splice d 0 vs = vs := by
 unfold splice
 rw [Nat.zero_add, hl, List.drop_length, List.take_zero, List.append_nil, List.nil_append]
theorem splice_len {d vs : List Value} {off : Nat} (hl : off + vs.length <= d.length) : (splice d off vs).length = d.length := by
 unfold splice
 simp only [List.length_append, List.length_take, List.length_drop]
 omega
theorem x_storeP {low n0 : Nat} {vs : List Value} (ho : o.op = .store t p x) (hp : ev e p = some (.pointer (some ⟨id, off, none⟩))) (hv : ev e x = some v) (hc : v.cells.toList = vs) (hs : szOf P t = some k) (hk : vs.length = k)
  (hr : h.t.get id = some (.row d id low false n0)) (hn : n0 = d.length) (hl : off + k <= d.length) (h1 : vs.all oneC = true) :
  doOp P call e h o = some (undef, ⟨h.t.set id (.row (splice d off vs) id low false (splice d off vs).length), h.next, min h.wr id⟩) := by
 rw [do_op (by rw [ho]; simp), ho]
 have hsz : v.cells.size = k := by rw [<-Array.length_toList, hc, hk]
 have hf := fam_row hr
 simp only [aop, hp, hv, storeV, hs, hsz, if_true, storeC, hf, hc, h1, and_true, hr]
 rw [if_pos ⟨trivial, trivial, Nat.zero_le _, by omega⟩, splice_len ow, hn]
 rfl
theorem x_store {low n0 : Nat} {vs : List Value} (ho : o.op = .store t p x) (hp : ev e p = some (.pointer (some ⟨id, 0, none⟩))) (hv : ev e x = some v) (hc : v.cells.toList = vs) (hs : szOf P t = some k) (hk : vs.length = k)
  (hr : h.t.get id = some (.row d id low false n0)) (hn : n0 = k) (hl : k = d.length) (h1 : vs.all oneC = true) :
  doOp P call e h o = some (undef, ⟨h.t.set id (.row vs id low false vs.length), h.next, min h.wr id⟩) := by
 rw [x_storeP ho hp hv hc hs hk hr ow ow h1, splice_all ow]
theorem x_box (ho : o.op = .box t x) (hx : ev e x = some v) (hc : v.cells.toList = cs) : doOp P call e h o = some (.pointer (some ⟨h.next, 0, none⟩), ⟨h.t.set h.next (.row cs h.next BIG false cs.length), h.next + 1, h.wr⟩) := by
 rw [do_op (by rw [ho]; simp), ho]
 simp only [aop, hx, Option.map_some, newRow, hc]
theorem x_move (ho : o.op = .move x) (hx : ev e x = some v) : doOp P call e h o = some (v, h) := by
 rw [do_op (by rw [ho]; simp), ho]
 simp only [aop, hx, Option.map_some]
theorem x_assign (ho : o.op = .assign x) (hx : ev e x = some v) : doOp P call e h o = some (v, h) := by
 rw [do_op (by rw [ho]; simp), ho]
 simp only [aop, hx, Option.map_some]
theorem x_bin {op : BinOp} {y : Operand} {a b u : Value} {t' : TypeId} (ho : o.op = .binOp op t x y t') (hx : ev e x = some a) (hy : ev e y = some b) (hb : binV P op t x y a b = some u) : doOp P call e h o = some (u, h) := by
 rw [do_op (by rw [ho]; simp), ho]
 simp only [aop, hx, hy, hb, Option.map_some]
theorem x_pick {y z : Operand} {q : Bool} (ho : o.op = .pick x y z) (hx : ev e x = some (.bool q)) (hy : ev e (if q then y else z) = some v) : doOp P call e h o = some (v, h) := by
 rw [do_op (by rw [ho]; simp), ho]
 simp only [aop, hx, hy, Option.map_some]
theorem ev_tmp {t : Nat} : ev e (.tmp t) = e.get t := rfl
theorem x_bslice1 {z : Value} (ho : o.op = .buildSlice t 1 #[(0, x)]) (hx : ev e x = some v) (hc : v.cells.toList = cs) (hu : P.underlying t = some (.slice el)) (hs : szOf P el = some sz) (hz : (P.info? el).bind (·.zero) = some z) (h0 : 0 < sz)
  (hzs : z.cells.size = sz) (hzf : free1 z = true) (hl : cs.length = sz) (hb : sz <= 16777216) : doOp P call e h o = some (.slice (some ⟨h.next, 0, none⟩) 1 1, ⟨h.t.set h.next (.row cs h.next BIG false cs.length), h.next + 1, h.wr⟩) := by
 rw [do_op (by rw [ho]; simp), ho]
 have hsz : v.cells.size = sz := by rw [<-Array.length_toList, hc, hl]
 have hzl : z.cells.toList.length = sz := by rw [Array.length_toList, hzs]
 have hfill : Instr.fill (fun i => some (i * sz, sz)) ⟨zerosC z.cells.toList 1⟩ [(0, v)] = some ⟨cs⟩ := by
  simp only [Instr.fill, zerosC, List.append_nil, Nat.zero_mul, Nat.zero_add]
  have hlt : ¬ (v.cells.size ≠ sz \/ v.cells.size > (⟨z.cells.toList⟩ : Array Value).size) := by
   rw [hsz]; simp [hzs]
  rw [if_neg (by simpa using hlt)]
  congr 1
  exact fill_all (hl.trans hzl.symm) hc
 simp only [aop, evP, hx, hu, hs, hz, Nat.one_mul]
 rw [if_pos ⟨hb, hzs, h0, hzf⟩]
 simp only [hfill, newRow]
theorem cells_row (hu : P.underlying t = some (.slice el)) (hs : szOf P el = some sz) (hl : loadC h id off (len * sz) = some cs) : cellsV P h t (.slice (some ⟨id, off, none⟩) len cap) = some (len, cs) := by
 unfold cellsV
 simp only [hu, hs, hl, Option.map_some]
theorem ext_none {f : FuncId} {args : List Value} (hx : xKind f = 0) : extV P (.func f) args = none := by
 unfold extV
 simp only
 rw [if_pos hx]
theorem x_call {f : FuncId} {a1 a2 : Array Value} {vs : List Value} {y : Operand} (ho : o.op = .call c) (hc : c.callee = .value y) (hy : ev e y = some (.func (.func f) a1 a2)) (ha : evs e c.args.toList = some vs)
  (hcall : call (.func f) (a1.toList ++ vs ++ a2.toList) h = some (v, h')) (hx : xKind f = 0 := by rfl) : doOp P call e h o = some (v, h') := by
 unfold doOp
 rw [ho]
 simp only [doCall, ha, hc, hy, ext_none hx, hcall]
end ops
end Go.AM
namespace Go.AM
theorem named_all {P : Program} (h : (P.funcs.toList.all fun fn => !fn.body.isSome || !(fn.name == "runtime.NumGoroutine")) = true)
  (hx : ∀ f, xKind f ≠ 0 -> ∃ fn, P.funcs[f]? = some fn /\ fn.body = none /\ (fn.name == "runtime.NumGoroutine") = false /\ Extern.findNext fn = none /\ Extern.find fn = some (xSem (xKind f))) : Named P := by
 refine ⟨fun f fn hf hb => ?_, hx⟩
 have := List.all_eq_true.1 h fn (List.mem_of_getElem? (by rw [Array.getElem?_toList]; exact hf))
 rw [hb] at this
 simpa using this
section
variable {P : Program} {call : Call'} {ops : Array Oper} {o : Oper} {e : Tr Value} {h : AH} {l : List Oper} {st : St} {K : St -> Prop} {KD : St -> List Inf -> Prop} {acc : List Inf} {j t : Nat} {q w : Bool}
theorem wA_none (hg : o.guard = none) : wantedA ops e o = some true := by unfold wantedA; rw [hg]
theorem wA_on (hg : o.guard = some (j, w)) (hd : (ops[j]?).bind (·.dst) = some t) (he : e.get t = some (.bool w)) : wantedA ops e o = some true := by
 unfold wantedA; rw [hg]; simp only [hd, he, beq_self_eq_true]
theorem wA_off (hg : o.guard = some (j, w)) (hd : (ops[j]?).bind (·.dst) = some t) (he : e.get t = some (.bool q)) (hq : (q == w) = false := by rfl) : wantedA ops e o = some false := by
 unfold wantedA; rw [hg]; simp only [hd, he, hq]
theorem o_guard (_hg : o.guard = some (j, w)) (_hd : (ops[j]?).bind (·.dst) = some t) {sz : Nat} (_he : e.get t = some (.bool q)) (k1 : q = true -> OpsK P call ops (o :: l) ⟨e, sz, h⟩ K) (k2 : q = false -> OpsK P call ops (o :: l) ⟨e, sz, h⟩ K) :
  OpsK P call ops (o :: l) ⟨e, sz, h⟩ K := by
 cases q with
 | true => exact k1 rfl
 | false => exact k2 rfl
theorem d_guard (_hg : o.guard = some (j, w)) (_hd : (ops[j]?).bind (·.dst) = some t) {sz : Nat} (_he : e.get t = some (.bool q)) (k1 : q = true -> DrawK P call ops (o :: l) ⟨e, sz, h⟩ acc KD) (k2 : q = false -> DrawK P call ops (o :: l) ⟨e, sz, h⟩ acc KD) :
  DrawK P call ops (o :: l) ⟨e, sz, h⟩ acc KD := by
 cases q with
 | true => exact k1 rfl
 | false => exact k2 rfl
theorem do_op_fieldAddr {T : TypeId} {x : Operand} {i : Nat} (ho : o.op = .fieldAddr T x i) : doOp P call e h o = (match ev e x with | some p => (fieldAddrV P T p i).map (·, h) | none => none) := by
 rw [do_op (by rw [ho]; simp), ho]; rfl
theorem do_op_unOp {u : UnOp} {T : TypeId} {x : Operand} (ho : o.op = .unOp u T x) : doOp P call e h o = (match ev e x with | some v => if free1 v then (keep (quick P (Op.unary u v))).map (·, h) else none | none => none) := by
 rw [do_op (by rw [ho]; simp), ho]; rfl
theorem do_op_convert {S T : TypeId} {x : Operand} (ho : o.op = .convert S T x) : doOp P call e h o = (match ev e x with | some v => convV P h S T v | none => none) := by
 rw [do_op (by rw [ho]; simp), ho]; rfl
theorem do_op_alloc {T : TypeId} (ho : o.op = .alloc T) : doOp P call e h o = (match (P.info? T).bind (·.zero) with | some z => if free1 z then some (newRow h z.cells.toList) else none | none => none) := by
 rw [do_op (by rw [ho]; simp), ho]; rfl
theorem do_op_extract {x : Operand} {i : Nat} (ho : o.op = .extract x i) : doOp P call e h o = (match ev e x with | some v => (quick P (Instr.extract v i)).map (·, h) | none => none) := by
 rw [do_op (by rw [ho]; simp), ho]; rfl
theorem x_not {T : TypeId} {x : Operand} {b : Bool} (ho : o.op = .unOp .not T x) (hx : ev e x = some (.bool b)) : doOp P call e h o = some (.bool (!b), h) := by
 rw [do_op_unOp ho, hx]; rfl
theorem x_neg {T : TypeId} {x : Operand} {κ : IntKind} {n : Int} (ho : o.op = .unOp .neg T x) (hx : ev e x = some (.int κ n)) : doOp P call e h o = some (.int κ (κ.wrap (0 - n)), h) := by
 rw [do_op_unOp ho, hx]; rfl
theorem x_convI {S T : TypeId} {x : Operand} {κ κ' : IntKind} {n : Int} {u : TypeDesc} (ho : o.op = .convert S T x) (hx : ev e x = some (.int κ n)) (hs : P.underlying S = some u) (hd : P.underlying T = some (.int κ')) : doOp P call e h o = some (.int κ' (κ'.wrap n), h) := by
 rw [do_op_convert ho, hx]
 show (if free1 (.int κ n) then (keep (quick P (convert S T (.int κ n)))).map (·, h) else none) = _
 simp only [c_int hs hd]
 rfl
theorem x_alloc {T : TypeId} {z : Value} {cs : List Value} (ho : o.op = .alloc T) (hz : (P.info? T).bind (·.zero) = some z) (hf : free1 z = true) (hc : z.cells.toList = cs) :
  doOp P call e h o = some (.pointer (some ⟨h.next, 0, none⟩), ⟨h.t.set h.next (.row cs h.next BIG false cs.length), h.next + 1, h.wr⟩) := by
 rw [do_op_alloc ho, hz]
 simp only [hf, if_true, newRow, hc]
theorem x_field {T : TypeId} {x : Operand} {i : Nat} {id off off' k : Nat} {fs : Array Field} {f : Field} (ho : o.op = .fieldAddr T x i) (hx : ev e x = some (.pointer (some ⟨id, off, none⟩))) (hu : P.underlying T = some (.struct fs)) (hf : fs[i]? = some f) (hs : szOf P f.type = some (k + 1))
  (hoff : off + f.offset = off') : doOp P call e h o = some (.pointer (some ⟨id, off', none⟩), h) := by
 rw [do_op_fieldAddr ho, hx]
 simp only [fieldAddrV, hu, hf, hs, Option.map_some, hoff]
theorem x_boxA {T : TypeId} {x : Operand} {cs : List Value} (ho : o.op = .box T x) (hx : ev e x = some (.agg ⟨cs⟩)) : doOp P call e h o = some (.pointer (some ⟨h.next, 0, none⟩), ⟨h.t.set h.next (.row cs h.next BIG false cs.length), h.next + 1, h.wr⟩) := x_box ho hx rfl
theorem x_storeA {T : TypeId} {p x : Operand} {id k low n0 : Nat} {vs d : List Value} (ho : o.op = .store T p x) (hp : ev e p = some (.pointer (some ⟨id, 0, none⟩))) (hv : ev e x = some (.agg ⟨vs⟩)) (hs : szOf P T = some k) (hk : vs.length = k)
  (hr : h.t.get id = some (.row d id low false n0)) (hn : n0 = k) (hl : k = d.length) (h1 : vs.all oneC = true) :
  doOp P call e h o = some (undef, ⟨h.t.set id (.row vs id low false vs.length), h.next, min h.wr id⟩) := x_store ho hp hv rfl hs hk hr hn hl h1
theorem x_bsliceV {t el : TypeId} {x : Operand} {v : Value} {z : Value} (ho : o.op = .buildSlice t 1 #[(0, x)]) (hx : ev e x = some v) (hc : v.cells.toList = [v]) (hu : P.underlying t = some (.slice el)) (hs : szOf P el = some 1) (hz : (P.info? el).bind (·.zero) = some z)
  (hzs : z.cells.size = 1) (hzf : free1 z = true) : doOp P call e h o = some (.slice (some ⟨h.next, 0, none⟩) 1 1, ⟨h.t.set h.next (.row [v] h.next BIG false 1), h.next + 1, h.wr⟩) := x_bslice1 ho hx hc hu hs hz (by decide) hzs hzf rfl (by decide)
theorem x_extract {x : Operand} {i : Nat} {vs : List Value} {v : Value} (ho : o.op = .extract x i) (hx : ev e x = some (.tuple ⟨vs⟩)) (hv : vs[i]? = some v) : doOp P call e h o = some (v, h) := by
 rw [do_op_extract ho, hx]
 have : quick P (Instr.extract (.tuple ⟨vs⟩) i) = some v := by
  have e1 : quick P (Instr.extract (.tuple ⟨vs⟩) i) = quick P (match (⟨vs⟩ : Array Value)[i]? with | some v => pure v | none => stuck _) := rfl
  rw [e1, List.getElem?_toArray, hv]; rfl
 simp only [this, Option.map_some]
end
end Go.AM
namespace Go.AM
inductive Sh where
 | fr
 | fn
 | sl (k : Nat)
 | ag (ks : List Nat)
def roRows : Nat -> List (List Value) -> List AObj
 | _, [] => []
 | i, d :: r => .row d i BIG true d.length :: roRows (i + 1) r
def newRows : Nat -> List (List Value) -> List AObj
 | _, [] => []
 | i, d :: r => .row d i BIG false d.length :: newRows (i + 1) r
def cheap (rows : List (List Value)) : AH := ⟨Tr.ofList (roRows 0 rows) 0 .leaf, (roRows 0 rows).length, BIG⟩
def rheap (rows new : List (List Value)) : AH := ⟨Tr.ofList (roRows 0 rows ++ newRows rows.length new) 0 .leaf, (roRows 0 rows ++ newRows rows.length new).length, rows.length⟩
def shp (k n : Nat) : Nat -> Option Nat := fun id => if k <= id then some (n + (id - k)) else none
structure Con (P : Program) (f : FuncId) (c : List Value -> AH -> Option (Value × AH)) : Prop where
 has : ∃ fn, P.funcs[f]? = some fn /\ fn.body.isSome = true
 meets : ∀ args h v h', c args h = some (v, h') -> Meets P (.func f) args h v h'
def tabOf : List (FuncId × (List Value -> AH -> Option (Value × AH))) -> Call'
 | [], _, _, _ => none
 | (g, c) :: r, f, args, h =>
  match f with
  | .func f' => if f' = g then c args h else tabOf r (.func f') args h
  | _ => none
theorem tab_sound {P : Program} : ∀ {l : List (FuncId × (List Value -> AH -> Option (Value × AH)))}, (∀ p ∈ l, Con P p.1 p.2) -> CallSound P (tabOf l)
 | [], _ => ⟨fun _ _ _ _ h => (by cases h), fun _ _ _ _ _ h => (by cases h)⟩
 | (g, c) :: r, hall => by
  have hc := hall (g, c) (List.mem_cons_self ..)
  have ih := tab_sound (P := P) (l := r) fun p hp => hall p (List.mem_cons_of_mem _ hp)
  constructor
  ·intro f args h r' hr
   simp only [tabOf] at hr
   split at hr
   ·rename_i hf; rw [hf]; exact hc.has
   ·exact ih.has _ _ _ _ hr
  ·intro f args h v h' hr
   cases f with
   | func f' =>
    simp only [tabOf] at hr
    split at hr
    ·rename_i hf; rw [hf]; exact hc.meets _ _ _ _ hr
    ·exact ih.meets _ _ _ _ _ hr
   | _ => cases hr
section
variable {P : Program} {β : Ren} {H : AH} {w : World}
theorem all_free1_mem {c : List Value} {p : Nat} {v : Value} (h : c.all free0 = true) (hp : c[p]? = some v) : free1 v = true := free0_free1 (List.all_eq_true.1 h v (List.mem_of_getElem? hp))
structure RowAt (w : World) (x : Bx) (c : List Value) : Prop where
 lo : x.lo = 0
 lt : x.g < w.heap.size
 ex : ∃ cs el fz, w.heap[x.g]? = some (.cells cs el fz) /\ cs.size = x.z /\ ∀ (p : Nat) (v : Value), c[p]? = some v -> cs[x.s + p]? = some v
theorem loadC_inv {id off k : Nat} {cs : List Value} (h : loadC H id off k = some cs) : ∃ f, H.fam id = some f /\ f.lo <= off /\ off + k <= f.rb id /\ cs = (f.data.drop off).take k := by
 unfold loadC at h
 split at h
 ·rename_i f hf
  split at h
  ·rename_i hc; cases h; exact ⟨f, hf, hc.1, hc.2, rfl⟩
  ·cases h
 ·cases h
def RowsAt (w : World) (xs : List (Option Bx)) (cs : List (List Value)) : Prop :=
 xs.length = cs.length /\ ∀ (j : Nat) (x : Option Bx) (c : List Value), xs[j]? = some x -> cs[j]? = some c -> (∀ y, x = some y -> RowAt w y c) /\ c.all free0 = true
theorem RowsAt.nil : RowsAt w [] [] := ⟨rfl, fun j x c h => by cases h⟩
theorem RowsAt.cons {x : Option Bx} {c : List Value} {xs : List (Option Bx)} {cs : List (List Value)} (h1 : ∀ y, x = some y -> RowAt w y c) (h2 : c.all free0 = true) (h3 : RowsAt w xs cs) : RowsAt w (x :: xs) (c :: cs) := by
 refine ⟨by simp [h3.1], fun j x' c' hx hc => ?_⟩
 cases j with
 | zero => simp at hx hc; subst hx; subst hc; exact ⟨h1, h2⟩
 | succ j => exact h3.2 j x' c' (by simpa using hx) (by simpa using hc)
theorem VRl.cons_inv {v : Value} {l l' : List Value} (h : VRl β (v :: l) l') : ∃ v' m, l' = v' :: m /\ VR β v v' /\ VRl β l m := by
 match l', h with
 | [], h => have := h.1; simp at this
 | v' :: m, h => exact ⟨v', m, rfl, h.2 0 _ _ rfl rfl, by have := h.1; simpa using this, fun i a b x y => h.2 (i + 1) a b (by simpa using x) (by simpa using y)⟩
theorem roRows_get : ∀ {rows : List (List Value)} {i j : Nat}, (roRows i rows)[j]? = (rows[j]?).map fun d => .row d (i + j) BIG true d.length
 | [], i, j => by simp [roRows]
 | d :: r, i, 0 => by simp [roRows]
 | d :: r, i, j + 1 => by
  simp only [roRows, List.getElem?_cons_succ, roRows_get (rows := r) (i := i + 1), show i + 1 + j = i + (j + 1) by omega]
theorem roRows_len : ∀ {rows : List (List Value)} {i : Nat}, (roRows i rows).length = rows.length
 | [], _ => rfl
 | _ :: r, i => by simp [roRows, roRows_len (rows := r)]
theorem ofList_get {os : List AObj} {j : Nat} : (Tr.ofList os 0 .leaf).get j = os[j]? := by
 rw [Tr.get_ofList]
 by_cases hi : j < os.length
 ·rw [if_pos ⟨Nat.zero_le _, by omega⟩, Nat.sub_zero]
 ·rw [if_neg ow, List.getElem?_eq_none ow]; rfl
theorem cheap_get {rows : List (List Value)} {j : Nat} : (cheap rows).t.get j = (rows[j]?).map fun d => .row d j BIG true d.length := by
 show (Tr.ofList (roRows 0 rows) 0 .leaf).get j = _
 rw [ofList_get, roRows_get, Nat.zero_add]
theorem cheap_next {rows : List (List Value)} : (cheap rows).next = rows.length := roRows_len
theorem cheap_fam {rows : List (List Value)} {j : Nat} {f : Fam} (hf : (cheap rows).fam j = some f) : ∃ d, rows[j]? = some d /\ f = ⟨j, 0, d.length, d, j, BIG, true⟩ := by
 unfold AH.fam at hf
 rw [cheap_get] at hf
 cases hd : rows[j]? with
 | none => rw [hd] at hf; cases hf
 | some d => rw [hd] at hf; cases hf; exact ⟨d, rfl, rfl⟩
theorem cheap_wf (rows : List (List Value)) : Wf (cheap rows) := by
 have hlt : ∀ {j : Nat} {d : List Value}, rows[j]? = some d -> j < rows.length := fun h => (List.getElem?_eq_some_iff.1 h).1
 constructor
 ·intro j o ho
  rw [cheap_get] at ho
  rw [cheap_next]
  cases hd : rows[j]? with
  | none => rw [hd] at ho; cases ho
  | some d => exact hlt hd
 ·intro j f hf
  obtain ⟨d, h1, rfl⟩ := cheap_fam hf
  exact Nat.zero_le _
 ·intro j f hf _
  obtain ⟨d, h1, rfl⟩ := cheap_fam hf
  rfl
 ·intro j f hf hne
  obtain ⟨d, h1, rfl⟩ := cheap_fam hf
  exact absurd rfl hne
 ·intro j f hf
  obtain ⟨d, h1, rfl⟩ := cheap_fam hf
  rw [cheap_next]
  exact hlt h1
 ·intro j r lo n ho
  rw [cheap_get] at ho
  cases hd : rows[j]? with
  | none => rw [hd] at ho; cases ho
  | some d => rw [hd] at ho; cases ho
theorem cheap_hr {xs : List (Option Bx)} {rows : List (List Value)} (hm0 : More β H w) (hR : RowsAt w xs rows) : HR (fun i => (xs[i]?).getD none) (cheap rows) w := by
 have at_ : ∀ {id : Nat} {x : Bx}, (xs[id]?).getD none = some x -> ∃ d, rows[id]? = some d /\ RowAt w x d /\ d.all free0 = true := by
  intro id x hx
  cases hi : xs[id]? with
  | none => rw [hi] at hx; cases hx
  | some y =>
   rw [hi] at hx
   have hx : y = some x := hx
   subst hx
   have hl : id < rows.length := by rw [<-hR.1]; exact (List.getElem?_eq_some_iff.1 hi).1
   refine ⟨rows[id], List.getElem?_eq_getElem hl, ?_⟩
   have := hR.2 id _ _ hi (List.getElem?_eq_getElem hl)
   exact ⟨this.1 x rfl, this.2⟩
 constructor
 ·intro id x hx
  obtain ⟨d, h1, h2, _⟩ := at_ hx
  rw [cheap_next]
  exact ⟨(List.getElem?_eq_some_iff.1 h1).1, h2.lt⟩
 ·intro id x f hx hf
  obtain ⟨d, h1, h2, h3⟩ := at_ hx
  obtain ⟨d', h4, rfl⟩ := cheap_fam hf
  rw [h1] at h4; cases h4
  obtain ⟨cs, el, fz, e1, e2, e3⟩ := h2.ex
  refine ⟨h2.lo, cs, el, fz, e1, e2, fun p v _ _ hp => ?_, fun hro => by cases hro⟩
  refine ⟨v, ?_, .of_free1 (all_free1_mem h3 hp)⟩
  rw [h2.lo, Nat.sub_zero]
  exact e3 p v hp
 ·intro id x es ck _ hm
  rw [cheap_get] at hm
  cases hd : rows[id]? with
  | none => rw [hd] at hm; cases hm
  | some d => rw [hd] at hm; cases hm
 ·intro id x r _ hm
  rw [cheap_get] at hm
  cases hd : rows[id]? with
  | none => rw [hd] at hm; cases hm
  | some d => rw [hd] at hm; cases hm
 ·intro id id' x x' hx hx' _
  obtain ⟨d, h1, _⟩ := at_ hx
  obtain ⟨d', h1', _⟩ := at_ hx'
  right
  refine ⟨⟨id, 0, d.length, d, id, BIG, true⟩, ⟨id', 0, d'.length, d', id', BIG, true⟩, ?_, ?_, .inr ⟨rfl, rfl⟩⟩
  ·unfold AH.fam; rw [cheap_get, h1]; rfl
  ·unfold AH.fam; rw [cheap_get, h1']; rfl
 ·refine ⟨fun id x m s e l hx hm => ?_, hm0.glob, fun id x hx _ => ?_⟩
  ·rw [cheap_get] at hm
   cases hd : rows[id]? with
   | none => rw [hd] at hm; cases hm
   | some d => rw [hd] at hm; cases hm
  ·obtain ⟨d, h1, _⟩ := at_ hx
   have : (cheap rows).fam id = some ⟨id, 0, d.length, d, id, BIG, true⟩ := by unfold AH.fam; rw [cheap_get, h1]; rfl
   rw [roOf_some this]
theorem cheap_ro {xs : List (Option Bx)} {rows : List (List Value)} (hR : RowsAt w xs rows) {id : Nat} {x : Bx} (hx : (xs[id]?).getD none = some x) (hro : roOf (cheap rows) id = false) : False := by
 have hl : id < rows.length := by
  cases hi : xs[id]? with
  | none => rw [hi] at hx; cases hx
  | some y => rw [<-hR.1]; exact (List.getElem?_eq_some_iff.1 hi).1
 have : (cheap rows).fam id = some ⟨id, 0, rows[id].length, rows[id], id, BIG, true⟩ := by
  unfold AH.fam
  rw [cheap_get, List.getElem?_eq_getElem hl]
  rfl
 unfold roOf at hro
 rw [this] at hro
 cases hro
theorem meets_start {f : FuncId} {fn : Func} {c : Code} {rows new : List (List Value)} {args : List Value} {sz nx : Nat} {e : Tr Value} {t : Tr AObj} {v : Value} (hP : Fit P) (hfn : P.funcs[f]? = some fn) (hb : fn.body = some c)
  (hz : max args.length fn.ntmps = sz) (he : Tr.ofList args 0 .leaf = e) (ht : Tr.ofList (roRows 0 rows) 0 .leaf = t) (hn : (roRows 0 rows).length = nx)
  (k : TriK P (cheap rows) c [] ⟨e, sz, ⟨t, nx, BIG⟩⟩ (Gives' P fn (cheap rows) v (rheap rows new))) : Meets P (.func f) args (cheap rows) v (rheap rows new) := by
 subst hz; subst he; subst ht; subst hn
 exact meets_of_triK hP hfn hb k
end
end Go.AM
namespace Go.AM
def Sl (i k n : Nat) (s : Value) : Prop := (s = .slice none 0 0 /\ n = 0) \/ s = .slice (some ⟨i, 0, none⟩) n (n + k)
def toI : Value -> Int
 | .int _ n => n
 | _ => 0
def unints (c : List Value) : List Int := c.map toI
theorem unints_ints (l : List Int) : unints (ints l) = l := by
 induction l with
 | nil => rfl
 | cons n l ih => simp only [unints, ints, List.map_cons, toI] at ih ⊢; rw [ih]
end Go.AM
