/-
  From a flat contract to a call in a world: how arguments are opened, what a call leaves.
-/
import Derived.Test.YtfgmplbclpadbaaGreatDoorCards
import Derived.Test.YtfgmplbclpadbaaGreatDoorTie
import Derived.Test.YtfgmplbclpadbaaGreatDoorMTy
import Derived.Test.YtfgmplbclpadbaaGreatDoorMA3
import Derived.WalkKit
import Derived.ProofKit
import Derived.OpenShut
import Derived.JoinedCond
import Derived.ChangeSlices
set_option linter.unusedSimpArgs false
set_option linter.unusedVariables false
namespace Go.Proofs.YtfgmplbclpadbaaGreatDoor
open Go Go.AM
open Go.ChangeShapes Go.WideShapes Go.ChangeAt Go.RowKit
structure OldW (w w' : World) : Prop where
 os : w'.os = w.os
 output : w'.output = w.output
 size : w.heap.size <= w'.heap.size
 same : ∀ b, b < w.heap.size -> w'.heap[b]? = w.heap[b]?
theorem OldW.kept {w w' : World} (h : OldW w w') (may : MemPlace -> Prop) : w.keptBut w' may := by
 refine ⟨h.os, h.output, fun i hi => ?_⟩
 rw [h.same i hi]
 cases w.heap[i]? with
 | none => rfl
 | some o => cases o <;> first | rfl | exact ⟨rfl, rfl, rfl, fun _ _ => rfl⟩ | exact .inr ⟨rfl, rfl⟩
theorem OldW.cell {w w' : World} (h : OldW w w') {a : Addr} {v : Value} (hc : w.cell? a = some v) : w'.cell? a = some v := by
 have hb : a.block < w.heap.size := by
  rcases Nat.lt_or_ge a.block w.heap.size with q | q
  ·exact q
  ·unfold World.cell? at hc
   rw [Array.getElem?_eq_none q] at hc
   cases hc
 unfold World.cell? at hc ⊢
 rw [h.same _ hb]
 exact hc
theorem meets_entry {P : Program} {f : FuncId} {us : List Value} {rows : List (List Value)} {v : Value} {h' : AH} (hm : Meets P (.func f) us (cheap rows) v h') (hv : free1 v = true) {w : World} {xs : List (Option Bx)} (hg : ∀ g c, gCells g = some c -> ∃ el fz, w.heap[g]? = some (.cells ⟨c⟩ el fz)) (hR : RowsAt w xs rows) {args' : List Value}
  (ha : VRl (fun i => (xs[i]?).getD none) us args') : Calls P f ⟨args'⟩ w fun e w' => e = .returned v /\ OldW w w' := by
 have h1 : CallsIn Fence.wide 0 P f ⟨args'⟩ w (Ends' (fun i => (xs[i]?).getD none) (cheap rows) w v h') := hm Fence.wide 0 _ w args' open_wide (cheap_hr (more0 hg) hR) (cheap_wf rows) ha
 refine (h1.mono fun e w' he => ?_).calls fun k => open_wide.room k
 obtain ⟨v', β', rfl, q1, q2, _, q4⟩ := he
 refine ⟨by rw [q1.free1_eq hv], q4.os, q4.output, q4.size, fun b hb => ?_⟩
 rcases q4.frame b hb with h | ⟨id, x, k1, _, _, k4⟩
 ·exact h
 ·exact (cheap_ro hR k1 k4).elim
theorem post_old {H : Type} {enc : TypeId × Value -> H} {P : Program} {f : Func} {s : ChangeSpec} {apart fresh handsOn : Bool} {W W' : World} {args : Array Value} {v : Value} {ds : List (DataW H)} {before pa : List MemPlace} (hv : s.vars = [])
  (hW : DataW.Whole enc P f.params.toList s.vars apart W args.toList ds [] before) (ho : OldW W W')
  (hres : ∀ b : Nat, DataW.TrodAll enc P W' b (fun _ => false) handsOn f.resultTypes.toList (v.resultList f.resultTypes.size) (s.fn H (ds ++ [])).results [])
  (hargs : DataW.TrodAll enc P W' 0 (fun b => decide (b < W.heap.size)) true f.params.toList args.toList (s.fn H (ds ++ [])).args pa) (hvs : (s.fn H (ds ++ [])).vars = []) : s.post enc P f apart fresh handsOn false W args v W' := by
 refine ⟨ds, [], before, [], pa, [], hW, hres _, hargs, ?_, ho.kept _, fun q => by cases q⟩
 rw [hv, hvs]
 rfl
def nums (k : IntKind) (l : List Int) : List Value := l.map (.int k)
structure ArgI (k : IntKind) (P : Program) (W : World) (v : Value) (l : List Int) (x : Option Bx) : Prop where
 row : ∀ y, x = some y -> RowAt W y (nums k l)
 sl : ∀ i : Nat, ∃ s, Sl i 1 l.length s /\ ∀ β : Ren, β i = x -> VR β s v
 rng : ∀ n ∈ l, (Lit.int k n).wf = true
theorem arg_ints {k : IntKind} {H : Type} {enc : TypeId × Value -> H} {P : Program} {W : World} {t e : TypeId} {b0 : Nat} {v : Value} {d : DataW H} {p : List MemPlace} (ht : P.underlying t = some (.slice e)) (he : P.underlying e = some (.int k)) (hc : P.cellsOf e = 1)
  (hval : Value.okWide P W .any b0 t v) (h : DataW.Trod enc P W 0 (fun _ => true) true t v d p) :
  ∃ (l : List Int) (x : Option Bx), ArgI k P W v l x /\ (l = [] \/ ∃ es sp, d = .slice es sp /\ l.length = es.length) /\ ∀ W', OldW W W' -> DataW.Trod enc P W' 0 (fun b => decide (b < W.heap.size)) true t v d p := by
 obtain ⟨fuel, h⟩ := h
 have hok : Cell.okWide P W .any b0 t v := by
  unfold Value.okWide at hval
  rw [ht] at hval
  exact hval
 have hsl : ∃ a n c, v = .slice a n c := by
  unfold Cell.okWide at hok
  rw [ht] at hok
  cases v <;> first | exact ⟨_, _, _, rfl⟩ | (exfalso; simp only [Cell.ok, ht] at hok)
 obtain ⟨a0, n0, c0, rfl⟩ := hsl
 rcases open_ints ht he hc h with ⟨h1, h2⟩ | ⟨a, len, cap, zs, h1, hb, hl, hm, hz, h2, hcell, hwf⟩
 ·cases h1
  cases h2
  refine ⟨[], none, ⟨fun y hy => (by cases hy), fun i => ⟨.slice none 0 0, .inl ⟨rfl, rfl⟩, fun β _ => .free _ rfl⟩, fun n hn => by cases hn⟩, .inl rfl, fun W' _ => shut_slice_nil ht⟩
 ·have h1 : [Value.slice a0 n0 c0] = [.slice (some a) len cap] := h1
  simp only [List.cons.injEq, Value.slice.injEq, and_true] at h1
  obtain ⟨rfl, e1, e2⟩ := h1
  obtain rfl : len = n0 := e1.symm
  obtain rfl : cap = c0 := e2.symm
  cases h2
  simp only [if_true] at hz
  have hhas : W.has P .any b0 a e cap := by
   unfold Cell.okWide at hok
   rw [ht] at hok
   simp only at hok
   unfold Cell.ok at hok
   rw [ht] at hok
   exact hok.2.2
  obtain ⟨-, hsp, rw0, cells, hsh, -⟩ := hhas
  obtain ⟨blk, off, spot⟩ := a
  simp only at hsp
  subst hsp
  obtain ⟨cs, el, fz, hcs⟩ : ∃ cs el fz, W.heap[blk]? = some (.cells cs el fz) := by
   unfold World.shape? at hsh
   simp only at hsh
   split at hsh
   ·exact ⟨_, _, _, ‹_›⟩
   ·cases hsh
  have hlt : blk < W.heap.size := (Array.getElem?_eq_some_iff.1 hcs).1
  have cell : ∀ i, i < zs.length -> cs[off + i]? = some (.int k (zs.getD i 0)) := by
   intro i hi
   have := hcell i hi
   rw [add_plain] at this
   unfold World.cell? at this
   simp only [hcs] at this
   simpa using this
  have hlen : (zs.take len).length = len := by rw [List.length_take]; omega
  have hgd : ∀ (q : Nat) (u : Value), (nums k (zs.take len))[q]? = some u -> cs[off + q]? = some u := by
   intro q u hu
   have hq : q < len := by
    have := (List.getElem?_eq_some_iff.1 hu).1
    unfold nums at this
    rw [List.length_map, hlen] at this
    exact this
   unfold nums at hu
   rw [List.getElem?_map, List.getElem?_take_of_lt hq, List.getElem?_eq_getElem (by omega)] at hu
   cases hu
   have hg : zs.getD q 0 = zs[q]'(by omega) := by rw [List.getD_eq_getElem?_getD, List.getElem?_eq_getElem (by omega)]; rfl
   have := cell q (by omega)
   rw [hg] at this
   exact this
  have hfull : ∀ W', OldW W W' -> DataW.Trod enc P W' 0 (fun b => decide (b < W.heap.size)) true t (.slice (some ⟨blk, off, none⟩) len cap) (.slice (lits k (zs.take len)) (lits k (zs.drop len))) (MemPlace.row ⟨blk, off, none⟩ zs.length) := by
   intro W' ho
   exact ⟨2, shut_ints 0 ht he hc (Nat.zero_le _) hl hm (by simp only [decide_eq_true hlt, if_true]; exact hz) (fun i hi => ho.cell (hcell i hi)) hwf⟩
  have hrng : ∀ n ∈ zs.take len, (Lit.int k n).wf = true := fun n hn => hwf n (List.mem_of_mem_take hn)
  have hbulk : zs.take len = [] \/ ∃ es sp, DataW.slice (lits (H := H) k (zs.take len)) (lits k (zs.drop len)) = .slice es sp /\ (zs.take len).length = es.length := .inr ⟨_, _, rfl, by unfold lits; rw [List.length_map]⟩
  rcases Nat.eq_zero_or_pos cap with hcap | hcap
  ·have hl0 : len = 0 := by omega
   refine ⟨zs.take len, some ⟨blk, 0, 0, cs.size⟩, ⟨fun y hy => ?_, fun i => ⟨.slice (some ⟨i, 0, none⟩) len (len + 1), ?_, fun β hβ => ?_⟩, hrng⟩, hbulk, hfull⟩
   ·cases hy
    exact ⟨rfl, hlt, cs, el, fz, hcs, rfl, fun q u hu => by rw [hl0] at hu; cases hu⟩
   ·rw [hlen]; exact .inr rfl
   ·exact .slice hβ (Nat.le_refl 0) (.inr ⟨1, 0, by decide, by decide, rfl, hl, by show 0 + (0 - 0) + cap * 1 <= cs.size; omega⟩) (.inl hcap)
  ·have hend : off + cap <= cs.size := by
    have := (Array.getElem?_eq_some_iff.1 (cell (cap - 1) (by omega))).1
    omega
   refine ⟨zs.take len, some ⟨blk, off, 0, cs.size⟩, ⟨fun y hy => ?_, fun i => ⟨.slice (some ⟨i, 0, none⟩) len (len + 1), ?_, fun β hβ => ?_⟩, hrng⟩, hbulk, hfull⟩
   ·cases hy
    exact ⟨rfl, hlt, cs, el, fz, hcs, rfl, hgd⟩
   ·rw [hlen]; exact .inr rfl
   ·exact .slice hβ (Nat.le_refl 0) (.inr ⟨1, 0, by decide, by decide, rfl, hl, by show off + (0 - 0) + cap * 1 <= cs.size; omega⟩) (.inr (by simp [Bx.at_]))
theorem nums_free0 (k : IntKind) (l : List Int) : (nums k l).all free0 = true := by
 rw [List.all_eq_true]
 intro v hv
 obtain ⟨n, _, rfl⟩ := List.mem_map.1 hv
 rfl
theorem lit_inR {n : Int} (h : (Lit.int .i64 n).wf = true) : inR n := by
 simp only [Lit.wf, IntKind.min, IntKind.max, IntKind.signed, IntKind.bits, Bool.and_eq_true, decide_eq_true_eq] at h
 exact ⟨by simpa using h.1, by simpa using h.2⟩
theorem lit_u8 {n : Int} (h : (Lit.int .u8 n).wf = true) : 0 <= n /\ n < 256 := by
 simp only [Lit.wf, IntKind.min, IntKind.max, IntKind.signed, IntKind.bits, Bool.and_eq_true, decide_eq_true_eq] at h
 have h1 := h.1
 have h2 := h.2
 simp at h1 h2
 omega
theorem own : ownKnob Tryz.prog.godebug = none := by kernel_rfl
end Go.Proofs.YtfgmplbclpadbaaGreatDoor
