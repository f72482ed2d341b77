/-
  From a flat contract to a call in a world: how arguments are opened, what a call leaves.
-/
import Derived.Test.YtmladpbadglecaaGreatDoorCards
import Derived.Test.YtmladpbadglecaaGreatDoorTie
import Derived.Test.YtmladpbadglecaaGreatDoorHWx
import Derived.Test.YtmladpbadglecaaGreatDoorHA3
import Derived.WalkKit
import Derived.ProofKit
import Derived.OpenShut
import Derived.JoinedCond
import Derived.ChangeSlices
import Derived.ChangeStays
import Derived.ChangeBears
set_option linter.unusedSimpArgs false
set_option linter.unusedVariables false
namespace Go.Proofs.YtmladpbadglecaaGreatDoor
open Go Go.AM
open Go.ChangeShapes Go.WideShapes Go.ChangeAt Go.RowKit
structure OldW (w w' : World) : Prop where
 os : w'.os = w.os
 output : w'.output = w.output
 size : w.heap.size <= w'.heap.size
 same : ∀ b, b < w.heap.size -> w'.heap[b]? = w.heap[b]?
theorem OldW.kept {w w' : World} (h : OldW w w') (may : MemPlace -> Prop) : w.keptBut w' may := by
 refine ⟨h.os, h.output, fun i hi => ?_⟩
 rw [h.same i hi]
 cases w.heap[i]? with
 | none => rfl
 | some o => cases o <;> first | rfl | exact ⟨rfl, rfl, rfl, fun _ _ => rfl⟩ | exact .inr ⟨rfl, rfl⟩
theorem OldW.cell {w w' : World} (h : OldW w w') {a : Addr} {v : Value} (hc : w.cell? a = some v) : w'.cell? a = some v := by
 have hb : a.block < w.heap.size := by
  rcases Nat.lt_or_ge a.block w.heap.size with q | q
  ·exact q
  ·unfold World.cell? at hc
   rw [Array.getElem?_eq_none q] at hc
   cases hc
 unfold World.cell? at hc ⊢
 rw [h.same _ hb]
 exact hc
theorem meets_entry {P : Program} {f : FuncId} {us : List Value} {rows : List (List Value)} {v : Value} {h' : AH} (hm : Meets P (.func f) us (cheap rows) v h') (hv : free1 v = true) {w : World} {xs : List (Option Bx)} (hg : ∀ g c, gCells g = some c -> ∃ el fz, w.heap[g]? = some (.cells ⟨c⟩ el fz)) (hR : RowsAt w xs rows) {args' : List Value}
  (ha : VRl (fun i => (xs[i]?).getD none) us args') : Calls P f ⟨args'⟩ w fun e w' => e = .returned v /\ OldW w w' := by
 have h1 : CallsIn Fence.wide 0 P f ⟨args'⟩ w (Ends' (fun i => (xs[i]?).getD none) (cheap rows) w v h') := hm Fence.wide 0 _ w args' open_wide (cheap_hr (more0 hg) hR) (cheap_wf rows) ha
 refine (h1.mono fun e w' he => ?_).calls fun k => open_wide.room k
 obtain ⟨v', β', rfl, q1, q2, _, q4⟩ := he
 refine ⟨by rw [q1.free1_eq hv], q4.os, q4.output, q4.size, fun b hb => ?_⟩
 rcases q4.frame b hb with h | ⟨id, x, k1, _, _, k4⟩
 ·exact h
 ·exact (cheap_ro hR k1 k4).elim
theorem post_old {H : Type} {enc : TypeId × Value -> H} {P : Program} {f : Func} {s : ChangeSpec} {apart fresh handsOn : Bool} {W W' : World} {args : Array Value} {v : Value} {ds : List (DataW H)} {before pa : List MemPlace} (hv : s.vars = [])
  (hW : DataW.Whole enc P f.params.toList s.vars apart W args.toList ds [] before) (ho : OldW W W')
  (hres : ∀ b : Nat, DataW.TrodAll enc P W' b (fun _ => false) handsOn f.resultTypes.toList (v.resultList f.resultTypes.size) (s.fn H (ds ++ [])).results [])
  (hargs : DataW.TrodAll enc P W' 0 (fun b => decide (b < W.heap.size)) true f.params.toList args.toList (s.fn H (ds ++ [])).args pa) (hvs : (s.fn H (ds ++ [])).vars = []) : s.post enc P f apart fresh handsOn false W args v W' := by
 refine ⟨ds, [], before, [], pa, [], hW, hres _, hargs, ?_, ho.kept _, fun q => by cases q⟩
 rw [hv, hvs]
 rfl
def nums (k : IntKind) (l : List Int) : List Value := l.map (.int k)
structure ArgI (k : IntKind) (P : Program) (W : World) (v : Value) (l : List Int) (x : Option Bx) : Prop where
 row : ∀ y, x = some y -> RowAt W y (nums k l)
 sl : ∀ i : Nat, ∃ s, Sl i 1 l.length s /\ ∀ β : Ren, β i = x -> VR β s v
 rng : ∀ n ∈ l, (Lit.int k n).wf = true
theorem arg_ints {k : IntKind} {H : Type} {enc : TypeId × Value -> H} {P : Program} {W : World} {t e : TypeId} {b0 : Nat} {v : Value} {d : DataW H} {p : List MemPlace} (ht : P.underlying t = some (.slice e)) (he : P.underlying e = some (.int k)) (hc : P.cellsOf e = 1)
  (hval : Value.okWide P W .any b0 t v) (h : DataW.Trod enc P W 0 (fun _ => true) true t v d p) :
  ∃ (l : List Int) (x : Option Bx), ArgI k P W v l x /\ (l = [] \/ ∃ es sp, d = .slice es sp /\ l.length = es.length) /\ ∀ W', OldW W W' -> DataW.Trod enc P W' 0 (fun b => decide (b < W.heap.size)) true t v d p := by
 obtain ⟨fuel, h⟩ := h
 have hok : Cell.okWide P W .any b0 t v := by
  unfold Value.okWide at hval
  rw [ht] at hval
  exact hval
 have hsl : ∃ a n c, v = .slice a n c := by
  unfold Cell.okWide at hok
  rw [ht] at hok
  cases v <;> first | exact ⟨_, _, _, rfl⟩ | (exfalso; simp only [Cell.ok, ht] at hok)
 obtain ⟨a0, n0, c0, rfl⟩ := hsl
 rcases open_ints ht he hc h with ⟨h1, h2⟩ | ⟨a, len, cap, zs, h1, hb, hl, hm, hz, h2, hcell, hwf⟩
 ·cases h1
  cases h2
  refine ⟨[], none, ⟨fun y hy => (by cases hy), fun i => ⟨.slice none 0 0, .inl ⟨rfl, rfl⟩, fun β _ => .free _ rfl⟩, fun n hn => by cases hn⟩, .inl rfl, fun W' _ => shut_slice_nil ht⟩
 ·have h1 : [Value.slice a0 n0 c0] = [.slice (some a) len cap] := h1
  simp only [List.cons.injEq, Value.slice.injEq, and_true] at h1
  obtain ⟨rfl, e1, e2⟩ := h1
  obtain rfl : len = n0 := e1.symm
  obtain rfl : cap = c0 := e2.symm
  cases h2
  simp only [if_true] at hz
  have hhas : W.has P .any b0 a e cap := by
   unfold Cell.okWide at hok
   rw [ht] at hok
   simp only at hok
   unfold Cell.ok at hok
   rw [ht] at hok
   exact hok.2.2
  obtain ⟨-, hsp, rw0, cells, hsh, -⟩ := hhas
  obtain ⟨blk, off, spot⟩ := a
  simp only at hsp
  subst hsp
  obtain ⟨cs, el, fz, hcs⟩ : ∃ cs el fz, W.heap[blk]? = some (.cells cs el fz) := by
   unfold World.shape? at hsh
   simp only at hsh
   split at hsh
   ·exact ⟨_, _, _, ‹_›⟩
   ·cases hsh
  have hlt : blk < W.heap.size := (Array.getElem?_eq_some_iff.1 hcs).1
  have cell : ∀ i, i < zs.length -> cs[off + i]? = some (.int k (zs.getD i 0)) := by
   intro i hi
   have := hcell i hi
   rw [add_plain] at this
   unfold World.cell? at this
   simp only [hcs] at this
   simpa using this
  have hlen : (zs.take len).length = len := by rw [List.length_take]; omega
  have hgd : ∀ (q : Nat) (u : Value), (nums k (zs.take len))[q]? = some u -> cs[off + q]? = some u := by
   intro q u hu
   have hq : q < len := by
    have := (List.getElem?_eq_some_iff.1 hu).1
    unfold nums at this
    rw [List.length_map, hlen] at this
    exact this
   unfold nums at hu
   rw [List.getElem?_map, List.getElem?_take_of_lt hq, List.getElem?_eq_getElem (by omega)] at hu
   cases hu
   have hg : zs.getD q 0 = zs[q]'(by omega) := by rw [List.getD_eq_getElem?_getD, List.getElem?_eq_getElem (by omega)]; rfl
   have := cell q (by omega)
   rw [hg] at this
   exact this
  have hfull : ∀ W', OldW W W' -> DataW.Trod enc P W' 0 (fun b => decide (b < W.heap.size)) true t (.slice (some ⟨blk, off, none⟩) len cap) (.slice (lits k (zs.take len)) (lits k (zs.drop len))) (MemPlace.row ⟨blk, off, none⟩ zs.length) := by
   intro W' ho
   exact ⟨2, shut_ints 0 ht he hc (Nat.zero_le _) hl hm (by simp only [decide_eq_true hlt, if_true]; exact hz) (fun i hi => ho.cell (hcell i hi)) hwf⟩
  have hrng : ∀ n ∈ zs.take len, (Lit.int k n).wf = true := fun n hn => hwf n (List.mem_of_mem_take hn)
  have hbulk : zs.take len = [] \/ ∃ es sp, DataW.slice (lits (H := H) k (zs.take len)) (lits k (zs.drop len)) = .slice es sp /\ (zs.take len).length = es.length := .inr ⟨_, _, rfl, by unfold lits; rw [List.length_map]⟩
  rcases Nat.eq_zero_or_pos cap with hcap | hcap
  ·have hl0 : len = 0 := by omega
   refine ⟨zs.take len, some ⟨blk, 0, 0, cs.size⟩, ⟨fun y hy => ?_, fun i => ⟨.slice (some ⟨i, 0, none⟩) len (len + 1), ?_, fun β hβ => ?_⟩, hrng⟩, hbulk, hfull⟩
   ·cases hy
    exact ⟨rfl, hlt, cs, el, fz, hcs, rfl, fun q u hu => by rw [hl0] at hu; cases hu⟩
   ·rw [hlen]; exact .inr rfl
   ·exact .slice hβ (Nat.le_refl 0) (.inr ⟨1, 0, by decide, by decide, rfl, hl, by show 0 + (0 - 0) + cap * 1 <= cs.size; omega⟩) (.inl hcap)
  ·have hend : off + cap <= cs.size := by
    have := (Array.getElem?_eq_some_iff.1 (cell (cap - 1) (by omega))).1
    omega
   refine ⟨zs.take len, some ⟨blk, off, 0, cs.size⟩, ⟨fun y hy => ?_, fun i => ⟨.slice (some ⟨i, 0, none⟩) len (len + 1), ?_, fun β hβ => ?_⟩, hrng⟩, hbulk, hfull⟩
   ·cases hy
    exact ⟨rfl, hlt, cs, el, fz, hcs, rfl, hgd⟩
   ·rw [hlen]; exact .inr rfl
   ·exact .slice hβ (Nat.le_refl 0) (.inr ⟨1, 0, by decide, by decide, rfl, hl, by show off + (0 - 0) + cap * 1 <= cs.size; omega⟩) (.inr (by simp [Bx.at_]))
theorem nums_free0 (k : IntKind) (l : List Int) : (nums k l).all free0 = true := by
 rw [List.all_eq_true]
 intro v hv
 obtain ⟨n, _, rfl⟩ := List.mem_map.1 hv
 rfl
theorem lit_inR {n : Int} (h : (Lit.int .i64 n).wf = true) : inR n := by
 simp only [Lit.wf, IntKind.min, IntKind.max, IntKind.signed, IntKind.bits, Bool.and_eq_true, decide_eq_true_eq] at h
 exact ⟨by simpa using h.1, by simpa using h.2⟩
theorem own : ownKnob Tryz.prog.godebug = none := by kernel_rfl
end Go.Proofs.YtmladpbadglecaaGreatDoor
namespace Go.Proofs.YtmladpbadglecaaGreatDoor
open Go Go.AM
open Go.ChangeShapes Go.WideShapes Go.ChangeAt Go.RowKit
set_option maxRecDepth 100000
section
variable {H : Type} {enc : TypeId × Value -> H} {P : Program} {w : World} {base : Nat} {sp : Nat -> Bool} {held : Bool}
theorem cells_sz {t : TypeId} {k : Nat} (h : szOf P t = some k) : P.cellsOf t = k := by
 unfold szOf at h
 unfold Program.cellsOf
 rw [h]; rfl
theorem flatFs_get {g : TypeId -> Option (List Lk)} : ∀ {fs : List Field} {off : Nat} {ks : List Lk}, flatFs P g fs off = some ks -> ∀ f ∈ fs, ∃ k0, g f.type = some k0 /\ k0.length = P.cellsOf f.type
 | [], _, _, _, f, hf => by cases hf
 | f0 :: fs, off, ks, h, f, hf => by
  unfold flatFs at h
  split at h
  case h_2 => cases h
  rename_i k0 k h1 h2
  split at h
  case isFalse => cases h
  rename_i hc
  rw [Option.map_eq_some_iff] at h
  obtain ⟨ks2, h3, _⟩ := h
  rcases List.mem_cons.1 hf with rfl | hf
  ·exact ⟨k0, h1, by rw [hc.2.2, cells_sz h2]⟩
  ·exact flatFs_get h3 f hf
theorem flatFs_cf {g : TypeId -> Option (List Lk)} {cs : List Value} : ∀ {fs : List Field} {off : Nat} {ks : List Lk}, flatFs P g fs off = some ks -> (∀ f ∈ fs, ∀ k0, g f.type = some k0 -> cf k0 ((cs.drop f.offset).take (P.cellsOf f.type)) = true) -> off + ks.length = cs.length -> cf ks (cs.drop off) = true
 | [], off, ks, h, _, hl => by
  unfold flatFs at h
  cases h
  rw [List.drop_eq_nil_of_le (by simp at hl; omega)]
  rfl
 | f0 :: fs, off, ks, h, hf, hl => by
  unfold flatFs at h
  split at h
  case h_2 => cases h
  rename_i k0 k h1 h2
  split at h
  case isFalse => cases h
  rename_i hc
  rw [Option.map_eq_some_iff] at h
  obtain ⟨ks2, h3, rfl⟩ := h
  have a := hf f0 (List.mem_cons_self ..) k0 h1
  rw [cells_sz h2, hc.2.1] at a
  rw [List.length_append, hc.2.2] at hl
  have b := flatFs_cf h3 (fun f hm => hf f (List.mem_cons_of_mem _ hm)) (by omega)
  have e : cs.drop off = (cs.drop off).take k ++ cs.drop (off + k) := by
   rw [<-List.drop_drop, List.take_append_drop]
  rw [e]
  exact cf_append a b
theorem rep_len {ks0 : List Lk} : ∀ {n : Nat}, (List.replicate n ks0).flatten.length = n * ks0.length
 | 0 => by simp
 | n + 1 => by rw [List.replicate_succ, List.flatten_cons, List.length_append, rep_len, Nat.add_mul]; omega
theorem rep_cf {ks0 : List Lk} {k : Nat} (hk : ks0.length = k) : ∀ {n : Nat} {cs : List Value}, (∀ i, i < n -> cf ks0 ((cs.drop (i * k)).take k) = true) -> cs.length = n * k -> cf (List.replicate n ks0).flatten cs = true
 | 0, cs, _, hl => by
  have : cs = [] := List.eq_nil_of_length_eq_zero (by omega)
  subst this; rfl
 | n + 1, cs, h, hl => by
  have a := h 0 (by omega)
  rw [Nat.zero_mul, List.drop_zero] at a
  have b := rep_cf hk (n := n) (cs := cs.drop k) (fun i hi => by
   have := h (i + 1) (by omega)
   rw [List.drop_drop, show k + i * k = (i + 1) * k by rw [Nat.add_mul, Nat.one_mul]; omega]
   exact this) (by rw [List.length_drop, hl, Nat.add_mul]; omega)
  have e : cs = cs.take k ++ cs.drop k := (List.take_append_drop ..).symm
  rw [List.replicate_succ, List.flatten_cons, e]
  exact cf_append a b
theorem trod_cf : ∀ {d : Nat} {t : TypeId} {ks : List Lk}, flatTy P d t = some ks -> ks.length = P.cellsOf t -> ∀ {n : Nat} {cs : List Value} {x : DataW H × List MemPlace}, DataW.trod enc P w base sp held n t cs = some x -> cf ks cs = true
 | 0, _, _, h, _, _, _, _, _ => by cases h
 | d + 1, t, ks, h, hl, n, cs, x, hx => by
  unfold flatTy at h
  split at h
  ·rename_i hu
   cases h
   obtain ⟨b, rfl, rfl⟩ := DataW.trod_bool hu hx
   rfl
  ·rename_i k hu
   cases h
   obtain ⟨m, rfl, rfl, hw⟩ := DataW.trod_int hu hx
   simp [cf, Lk.ok]
  ·rename_i hu
   cases h
   obtain ⟨s, rfl, rfl, _⟩ := DataW.trod_string hu hx
   rfl
  ·rename_i fs hu
   split at h
   ·cases h
   ·obtain ⟨xs, m, rfl, rfl, hcl, hxl, hf⟩ := DataW.trod_struct hu hx
    have each : ∀ f ∈ fs.toList, ∀ k0, flatTy P d f.type = some k0 -> cf k0 ((cs.drop f.offset).take (P.cellsOf f.type)) = true := by
     intro f hm k0 hk0
     obtain ⟨i, hi, he⟩ := List.getElem_of_mem hm
     have hi2 : i < fs.size := by simpa using hi
     have hg : fs[i]? = some f := by rw [Array.getElem?_eq_getElem hi2, <-he]; simp
     have q := hf i f hg
     rw [List.getElem?_eq_getElem (by omega)] at q
     obtain ⟨k1, e1, e2⟩ := flatFs_get h f hm
     rw [hk0] at e1
     cases e1
     exact trod_cf hk0 e2 q
    have q := flatFs_cf (cs := cs) h each (by omega)
    rw [List.drop_zero] at q
    exact q
  ·rename_i m e hu
   split at h
   case h_2 => cases h
   rename_i ks0 k h1 h2
   split at h
   case isFalse => cases h
   rename_i hk
   cases h
   obtain ⟨xs, m', rfl, rfl, hcl, hxl, hf⟩ := DataW.trod_array hu hx
   have hce : P.cellsOf e = k := cells_sz h2
   have each : ∀ i (hi : i < m), cf ks0 ((cs.drop (i * k)).take k) = true := by
    intro i hi
    have q := hf i hi
    rw [List.getElem?_eq_getElem (by omega), hce] at q
    exact trod_cf h1 (by rw [hk, hce]) q
   exact rep_cf (cs := cs) hk (fun i hi => each i hi) (by rw [hcl, <-hl, rep_len, hk])
  ·cases h
end
theorem shut_old {H : Type} {enc : TypeId × Value -> H} {P : Program} {W W' : World} (hl : laidOutB P = true) (hm : mapsRowed P = true) (hsz : ((List.range P.types.size).all fun t => match P.underlying t with | some (.slice e) => decide (0 < P.cellsOf e) | _ => true) = true)
  {t : TypeId} {v : Value} {d : DataW H} {p : List MemPlace} (ht : t < P.types.size) (h : DataW.Trod enc P W 0 (fun _ => true) true t v d p) (ho : OldW W W') : DataW.Trod enc P W' 0 (fun b => decide (b < W.heap.size)) true t v d p := by
 obtain ⟨fuel, h⟩ := h
 have hlt := DataW.trod_lt _ _ _ _ h
 refine ⟨fuel, DataW.trod_stays (kids_rows hl hm) (fun {t e} ht hu => ?_) (fun q => by cases q) ht h (fun p hp => ?_) (fun p hp => decide_eq_true (hlt p hp))⟩
 ·have := List.all_eq_true.1 hsz t (List.mem_range.2 ht)
  rw [hu] at this
  exact of_decide_eq_true this
 ·have hb := hlt p hp
  cases p with
  | cell b off =>
   have hb : b < W.heap.size := hb
   show W'.cell? ⟨b, off, none⟩ = W.cell? ⟨b, off, none⟩
   unfold World.cell?
   simp only
   rw [ho.same b hb]
  | map b => exact ho.same b hb
theorem cf_cons {k : Lk} {ks : List Lk} : ∀ {cs : List Value}, cf (k :: ks) cs = true -> ∃ v r, cs = v :: r /\ k.ok v = true /\ cf ks r = true
 | [], h => by cases h
 | v :: r, h => by
  simp only [cf, Bool.and_eq_true] at h
  exact ⟨v, r, rfl, h⟩
theorem ok_i {κ : IntKind} {v : Value} (h : (Lk.int κ).ok v = true) : ∃ n, v = .int κ n := by
 cases v <;> first | (exact ⟨_, by rw [of_decide_eq_true h]⟩) | cases h
theorem ok_s {v : Value} (h : Lk.str.ok v = true) : ∃ s, v = .string s := by
 cases v <;> first | exact ⟨_, rfl⟩ | cases h
theorem arg_res {H : Type} {enc : TypeId × Value -> H} {W : World} {b0 : Nat} {v : Value} {d : DataW H} {p : List MemPlace} (hval : Value.okWide Tryz.prog W .any b0 28 v) (h : DataW.Trod enc Tryz.prog W 0 (fun _ => true) true 28 v d p) : ∃ (a c : Int) (b : ByteArray) (rest : List Value), v = .agg ⟨.int .i64 a :: .string b :: .int .i64 c :: rest⟩ /\ rest.length = 19 /\ (.int .i64 a :: .string b :: .int .i64 c :: rest : List Value).all free0 = true := by
 unfold Value.okWide at hval
 rw [Tryz.underlying28] at hval
 obtain ⟨cs, rfl, -, -⟩ := hval
 obtain ⟨fuel, h⟩ := h
 obtain ⟨cs⟩ := cs
 have z : cf T.K28 cs = true := trod_cf (cs := cs) T.f28 (by kernel_rfl) h
 have zf := cf_free0 z
 obtain ⟨v1, r1, rfl, k1, h1⟩ := cf_cons z
 obtain ⟨a, rfl⟩ := ok_i k1
 obtain ⟨v2, r2, rfl, k2, h2⟩ := cf_cons h1
 obtain ⟨b, rfl⟩ := ok_s k2
 obtain ⟨v3, r3, rfl, k3, h3⟩ := cf_cons h2
 obtain ⟨c, rfl⟩ := ok_i k3
 exact ⟨a, c, b, r3, rfl, (cf_len h3).trans rfl, zf⟩
theorem vr_agg {β : Ren} {cs : List Value} (h : cs.all free0 = true) : VR β (.agg ⟨cs⟩) (.agg ⟨cs⟩) := .agg rfl fun i v v' a b => by
 rw [a] at b
 cases b
 rw [List.getElem?_toArray] at a
 exact .free v (List.all_eq_true.1 h v (List.mem_of_getElem? a))
theorem laid_all : laidOutB Tryz.prog = true := by kernel_rfl
theorem maps_all : mapsRowed Tryz.prog = true := by kernel_rfl
theorem sized_all : ((List.range Tryz.prog.types.size).all fun t => match Tryz.prog.underlying t with | some (.slice e) => decide (0 < Tryz.prog.cellsOf e) | _ => true) = true := by kernel_rfl
theorem in_types : 28 < Tryz.prog.types.size := of_decide_eq_true (by kernel_rfl)
end Go.Proofs.YtmladpbadglecaaGreatDoor
