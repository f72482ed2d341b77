/-
  An argument that is a slice of flat structs: how it is opened, and how any argument is shut when nothing old was written.
-/
import Derived.ChangeStays
import Derived.ChangeBears
import Derived.Test.YtohhcnehcjpekaaJEn
namespace Go.Proofs.Ytohhcnehcjpekaa
open Go Go.AM
open Go.ChangeShapes Go.WideShapes Go.ChangeAt Go.RowKit
section
variable {H : Type} {enc : TypeId × Value → H} {P : Program} {w : World} {base : Nat} {sp : Nat → Bool} {held : Bool}
theorem cells_sz {t : TypeId} {k : Nat} (h : szOf P t = some k) : P.cellsOf t = k := by
 unfold szOf at h
 unfold Program.cellsOf
 rw [h]; rfl
theorem flatFs_get {g : TypeId → Option (List Lk)} : ∀ {fs : List Field} {off : Nat} {ks : List Lk}, flatFs P g fs off = some ks → ∀ f ∈ fs, ∃ k0, g f.type = some k0 ∧ k0.length = P.cellsOf f.type
 | [], _, _, _, f, hf => by cases hf
 | f0 :: fs, off, ks, h, f, hf => by
  unfold flatFs at h
  split at h
  case h_2 => cases h
  rename_i k0 k h1 h2
  split at h
  case isFalse => cases h
  rename_i hc
  rw [Option.map_eq_some_iff] at h
  obtain ⟨ks2, h3, _⟩ := h
  rcases List.mem_cons.1 hf with rfl | hf
  ·exact ⟨k0, h1, by rw [hc.2.2, cells_sz h2]⟩
  ·exact flatFs_get h3 f hf
theorem flatFs_cf {g : TypeId → Option (List Lk)} {cs : List Value} : ∀ {fs : List Field} {off : Nat} {ks : List Lk}, flatFs P g fs off = some ks → (∀ f ∈ fs, ∀ k0, g f.type = some k0 → cf k0 ((cs.drop f.offset).take (P.cellsOf f.type)) = true) → off + ks.length = cs.length → cf ks (cs.drop off) = true
 | [], off, ks, h, _, hl => by
  unfold flatFs at h
  cases h
  rw [List.drop_eq_nil_of_le (by simp at hl; omega)]
  rfl
 | f0 :: fs, off, ks, h, hf, hl => by
  unfold flatFs at h
  split at h
  case h_2 => cases h
  rename_i k0 k h1 h2
  split at h
  case isFalse => cases h
  rename_i hc
  rw [Option.map_eq_some_iff] at h
  obtain ⟨ks2, h3, rfl⟩ := h
  have a := hf f0 (List.mem_cons_self ..) k0 h1
  rw [cells_sz h2, hc.2.1] at a
  rw [List.length_append, hc.2.2] at hl
  have b := flatFs_cf h3 (fun f hm => hf f (List.mem_cons_of_mem _ hm)) (by omega)
  have e : cs.drop off = (cs.drop off).take k ++ cs.drop (off + k) := by
   rw [← List.drop_drop, List.take_append_drop]
  rw [e]
  exact cf_append a b
theorem rep_len {ks0 : List Lk} : ∀ {n : Nat}, (List.replicate n ks0).flatten.length = n * ks0.length
 | 0 => by simp
 | n + 1 => by rw [List.replicate_succ, List.flatten_cons, List.length_append, rep_len, Nat.add_mul]; omega
theorem rep_cf {ks0 : List Lk} {k : Nat} (hk : ks0.length = k) : ∀ {n : Nat} {cs : List Value}, (∀ i, i < n → cf ks0 ((cs.drop (i * k)).take k) = true) → cs.length = n * k → cf (List.replicate n ks0).flatten cs = true
 | 0, cs, _, hl => by
  have : cs = [] := List.eq_nil_of_length_eq_zero (by omega)
  subst this; rfl
 | n + 1, cs, h, hl => by
  have a := h 0 (by omega)
  rw [Nat.zero_mul, List.drop_zero] at a
  have b := rep_cf hk (n := n) (cs := cs.drop k) (fun i hi => by
   have := h (i + 1) (by omega)
   rw [List.drop_drop, show k + i * k = (i + 1) * k by rw [Nat.add_mul, Nat.one_mul]; omega]
   exact this) (by rw [List.length_drop, hl, Nat.add_mul]; omega)
  have e : cs = cs.take k ++ cs.drop k := (List.take_append_drop ..).symm
  rw [List.replicate_succ, List.flatten_cons, e]
  exact cf_append a b
theorem trod_cf : ∀ {d : Nat} {t : TypeId} {ks : List Lk}, flatTy P d t = some ks → ks.length = P.cellsOf t → ∀ {n : Nat} {cs : List Value} {x : DataW H × List MemPlace}, DataW.trod enc P w base sp held n t cs = some x → cf ks cs = true ∧ x.2 = []
 | 0, _, _, h, _, _, _, _, _ => by cases h
 | d + 1, t, ks, h, hl, n, cs, x, hx => by
  unfold flatTy at h
  split at h
  ·rename_i hu
   cases h
   obtain ⟨b, rfl, rfl⟩ := DataW.trod_bool hu hx
   exact ⟨rfl, rfl⟩
  ·rename_i k hu
   cases h
   obtain ⟨m, rfl, rfl, _⟩ := DataW.trod_int hu hx
   exact ⟨by simp [cf, Lk.ok], rfl⟩
  ·rename_i hu
   cases h
   obtain ⟨s, rfl, rfl, _⟩ := DataW.trod_string hu hx
   exact ⟨rfl, rfl⟩
  ·rename_i fs hu
   split at h
   ·cases h
   ·obtain ⟨xs, m, rfl, rfl, hcl, hxl, hf⟩ := DataW.trod_struct hu hx
    have each : ∀ f ∈ fs.toList, ∀ k0, flatTy P d f.type = some k0 → cf k0 ((cs.drop f.offset).take (P.cellsOf f.type)) = true := by
     intro f hm k0 hk0
     obtain ⟨i, hi, he⟩ := List.getElem_of_mem hm
     have hi2 : i < fs.size := by simpa using hi
     have hg : fs[i]? = some f := by rw [Array.getElem?_eq_getElem hi2, ← he]; simp
     have q := hf i f hg
     rw [List.getElem?_eq_getElem (by omega)] at q
     obtain ⟨k1, e1, e2⟩ := flatFs_get h f hm
     rw [hk0] at e1
     cases e1
     exact (trod_cf hk0 e2 q).1
    refine ⟨?_, ?_⟩
    ·have q := flatFs_cf (cs := cs) h each (by omega)
     rw [List.drop_zero] at q
     exact q
    ·rw [List.flatMap_eq_nil_iff]
     intro y hy
     obtain ⟨i, hi, he⟩ := List.getElem_of_mem hy
     have hi2 : i < fs.size := by omega
     have q := hf i fs[i] (Array.getElem?_eq_getElem hi2)
     rw [List.getElem?_eq_getElem hi, he] at q
     obtain ⟨k1, e1, e2⟩ := flatFs_get h fs[i] (by simp)
     exact (trod_cf e1 e2 q).2
  ·rename_i m e hu
   split at h
   case h_2 => cases h
   rename_i ks0 k h1 h2
   split at h
   case isFalse => cases h
   rename_i hk
   cases h
   obtain ⟨xs, m', rfl, rfl, hcl, hxl, hf⟩ := DataW.trod_array hu hx
   have hce : P.cellsOf e = k := cells_sz h2
   have each : ∀ i (hi : i < m), cf ks0 ((cs.drop (i * k)).take k) = true ∧ (xs[i]'(by omega)).2 = [] := by
    intro i hi
    have q := hf i hi
    rw [List.getElem?_eq_getElem (by omega), hce] at q
    exact trod_cf h1 (by rw [hk, hce]) q
   refine ⟨rep_cf hk (fun i hi => (each i hi).1) ?_, ?_⟩
   ·rw [hcl, ← hl, rep_len, hk]
   ·rw [List.flatMap_eq_nil_iff]
    intro y hy
    obtain ⟨i, hi, he⟩ := List.getElem_of_mem hy
    rw [← he]
    exact (each i (by omega)).2
  ·cases h
end
theorem shut_old {H : Type} {enc : TypeId × Value → H} {P : Program} {W W' : World} (hl : laidOutB P = true) (hm : mapsRowed P = true) (hsz : ((List.range P.types.size).all fun t => match P.underlying t with | some (.slice e) => decide (0 < P.cellsOf e) | _ => true) = true)
  {t : TypeId} {v : Value} {d : DataW H} {p : List MemPlace} (ht : t < P.types.size) (h : DataW.Trod enc P W 0 (fun _ => true) true t v d p) (ho : OldW W W') : DataW.Trod enc P W' 0 (fun b => decide (b < W.heap.size)) true t v d p := by
 obtain ⟨fuel, h⟩ := h
 have hlt := DataW.trod_lt _ _ _ _ h
 refine ⟨fuel, DataW.trod_stays (kids_rows hl hm) (fun {t e} ht hu => ?_) (fun q => by cases q) ht h (fun p hp => ?_) (fun p hp => decide_eq_true (hlt p hp))⟩
 ·have := List.all_eq_true.1 hsz t (List.mem_range.2 ht)
  rw [hu] at this
  exact of_decide_eq_true this
 ·have hb := hlt p hp
  cases p with
  | cell b off =>
   have hb : b < W.heap.size := hb
   show W'.cell? ⟨b, off, none⟩ = W.cell? ⟨b, off, none⟩
   unfold World.cell?
   simp only
   rw [ho.same b hb]
  | map b => exact ho.same b hb
structure ArgA (P : Program) (W : World) (k : Nat) (ks : List Lk) (v : Value) (L : List (List Value)) (x : Option Bx) : Prop where
 row : ∀ y, x = some y → RowAt W y L.flatten
 sl : ∀ i : Nat, ∃ s, Sl i k L.length s ∧ ∀ β : Ren, β i = x → VR β s v
 cf : cfs ks L
theorem bulk_len {H : Type} : ∀ L : List (DataW H), L.length ≤ Rows.uptoBulkAll L
 | [] => Nat.zero_le _
 | a :: L => by
  have ih := bulk_len L
  simp only [Rows.uptoBulkAll, List.length_cons]
  have : 1 ≤ Rows.uptoBulk a := by
   cases a with
   | lit l => cases l <;> simp [Rows.uptoBulk]
   | _ => simp [Rows.uptoBulk]
  omega
theorem arg_rows {H : Type} {enc : TypeId × Value → H} {P : Program} {W : World} {t e : TypeId} {k : Nat} {ks : List Lk} {b0 : Nat} {v : Value} {d : DataW H} {p : List MemPlace} (ht : P.underlying t = some (.slice e)) (hf : flatTy P 20 e = some ks) (hkl : ks.length = k) (hc : P.cellsOf e = k) (hk : 0 < k)
  (hval : Value.okWide P W .any b0 t v) (h : DataW.Trod enc P W 0 (fun _ => true) true t v d p) :
  ∃ (L : List (List Value)) (x : Option Bx), ArgA P W k ks v L x ∧ L.length + 1 ≤ Rows.uptoBulk d := by
 obtain ⟨fuel, h⟩ := h
 have hok : Cell.okWide P W .any b0 t v := by
  unfold Value.okWide at hval
  rw [ht] at hval
  exact hval
 have hsl : ∃ a n c, v = .slice a n c := by
  unfold Cell.okWide at hok
  rw [ht] at hok
  cases v <;> first | exact ⟨_, _, _, rfl⟩ | (exfalso; simp only [Cell.ok, ht] at hok)
 obtain ⟨a0, n0, c0, rfl⟩ := hsl
 rcases DataW.trod_slice ht h with ⟨h1, h2⟩ | ⟨a, len, cap, elems, rest, n, hfu, h1, h2, hb, hl, hm, hlen, hel, hsp, hns⟩
 ·cases h1
  cases h2
  exact ⟨[], none, ⟨fun y hy => (by cases hy), fun i => ⟨.slice none 0 0, .inl ⟨rfl, rfl⟩, fun β _ => .free _ rfl⟩, cfs_nil⟩, by simp [Rows.uptoBulk]⟩
 ·have h1 : [Value.slice a0 n0 c0] = [.slice (some a) len cap] := h1
  simp only [List.cons.injEq, Value.slice.injEq, and_true] at h1
  obtain ⟨rfl, e1, e2⟩ := h1
  obtain rfl : len = n0 := e1.symm
  obtain rfl : cap = c0 := e2.symm
  cases h2
  have hhas : W.has P .any b0 a e cap := by
   unfold Cell.okWide at hok
   rw [ht] at hok
   simp only at hok
   unfold Cell.ok at hok
   rw [ht] at hok
   exact hok.2.2
  obtain ⟨-, hspot, rw0, cells, hsh, -⟩ := hhas
  obtain ⟨blk, off, spot⟩ := a
  simp only at hspot
  subst hspot
  obtain ⟨cs, el, fz, hcs⟩ : ∃ cs el fz, W.heap[blk]? = some (.cells cs el fz) := by
   unfold World.shape? at hsh
   simp only at hsh
   split at hsh
   ·exact ⟨_, _, _, ‹_›⟩
   ·cases hsh
  have hlt : blk < W.heap.size := (Array.getElem?_eq_some_iff.1 hcs).1
  obtain ⟨hrl, hrest⟩ := hsp rfl
  -- each element's cells
  have each : ∀ i, i < cap → ∃ c y, W.cells? 0 (⟨blk, off + i * k, none⟩ : Addr) k = some c ∧ DataW.trod enc P W 0 (fun _ => true) true n e c = some y := by
   intro i hi
   have hh : ∃ y, (W.cells? 0 ((⟨blk, off, none⟩ : Addr).add (i * P.cellsOf e)) (P.cellsOf e)).bind (DataW.trod enc P W 0 (fun _ => true) true n e) = some y := by
    by_cases q : i < len
    ·rw [hel i q, List.getElem?_eq_getElem (by omega)]; exact ⟨_, rfl⟩
    ·have := hrest (i - len) (by omega)
     rw [show len + (i - len) = i by omega] at this
     rw [this, List.getElem?_eq_getElem (by omega)]; exact ⟨_, rfl⟩
   obtain ⟨y, hy⟩ := hh
   rw [hc, add_plain, Option.bind_eq_some_iff] at hy
   obtain ⟨c, c1, c2⟩ := hy
   exact ⟨c, y, c1, c2⟩
  have at_ : ∀ i, i < cap → ∀ c, W.cells? 0 (⟨blk, off + i * k, none⟩ : Addr) k = some c → c.length = k ∧ ∀ j, j < k → cs[off + i * k + j]? = c[j]? := by
   intro i hi c hcc
   obtain ⟨_, q2, q3⟩ := World.cells?_some hcc
   refine ⟨q2, fun j hj => ?_⟩
   have := q3 j hj
   rw [add_plain] at this
   unfold World.cell? at this
   simp only [hcs] at this
   simpa using this
  have hend : off + cap * k ≤ cs.size ∨ cap = 0 := by
   rcases Nat.eq_zero_or_pos cap with q | q
   ·exact .inr q
   ·left
    obtain ⟨c, y, c1, _⟩ := each (cap - 1) (by omega)
    obtain ⟨q2, q3⟩ := at_ (cap - 1) (by omega) c c1
    have := q3 (k - 1) (by omega)
    rw [List.getElem?_eq_getElem (by omega)] at this
    have := (Array.getElem?_eq_some_iff.1 this).1
    obtain ⟨m, rfl⟩ : ∃ m, cap = m + 1 := ⟨cap - 1, by omega⟩
    rw [Nat.add_sub_cancel] at this
    rw [Nat.add_mul]
    omega
  have hlk : len * k ≤ cap * k := Nat.mul_le_mul_right k hl
  obtain ⟨D, hD⟩ : ∃ D, D = (cs.toList.drop off).take (len * k) := ⟨_, rfl⟩
  have hDl : D.length = len * k := by
   rw [hD, List.length_take, List.length_drop, Array.length_toList]
   rcases hend with q | q
   ·omega
   ·have : len = 0 := by omega
    subst this; omega
  have hDg : ∀ q, q < len * k → D[q]? = cs[off + q]? := by
   intro q hq
   rw [hD, List.getElem?_take_of_lt hq, List.getElem?_drop]
   simp
  have hfl : (chunks k D).flatten = D := flat_chunks hk len D hDl
  have hcl : (chunks k D).length = len := by
   unfold chunks
   rw [List.length_map, List.length_range, hDl, Nat.mul_div_cancel _ hk]
  have hcf : cfs ks (chunks k D) := by
   intro y hy
   unfold chunks at hy
   obtain ⟨i, hi, rfl⟩ := List.mem_map.1 hy
   have hi : i < len := by
    have := List.mem_range.1 hi
    rwa [hDl, Nat.mul_div_cancel _ hk] at this
   obtain ⟨c, y, c1, c2⟩ := each i (by omega)
   obtain ⟨q2, q3⟩ := at_ i (by omega) c c1
   have hik : i * k + k ≤ len * k := by
    have := Nat.mul_le_mul_right k (show i + 1 ≤ len by omega)
    rw [Nat.add_mul] at this
    omega
   have e : (D.drop (i * k)).take k = c := by
    apply List.ext_getElem?
    intro j
    by_cases hj : j < k
    ·rw [List.getElem?_take_of_lt hj, List.getElem?_drop, hDg _ (by omega), ← q3 j hj, Nat.add_assoc]
    ·rw [List.getElem?_eq_none (by rw [List.length_take]; omega), List.getElem?_eq_none (by omega)]
   rw [e]
   exact (trod_cf hf (by rw [hkl, hc]) c2).1
  have hbulk : (chunks k D).length + 1 ≤ Rows.uptoBulk (DataW.slice (elems.map (·.1)) (rest.map (·.1))) := by
   have := bulk_len (elems.map (·.1))
   rw [List.length_map, hlen] at this
   rw [hcl]
   simp only [Rows.uptoBulk]
   omega
  rcases Nat.eq_zero_or_pos cap with hcap | hcap
  ·have hl0 : len = 0 := by omega
   refine ⟨chunks k D, some ⟨blk, 0, 0, cs.size⟩, ⟨fun y hy => ?_, fun i => ⟨.slice (some ⟨i, 0, none⟩) len (len + k), ?_, fun β hβ => ?_⟩, hcf⟩, hbulk⟩
   ·cases hy
    refine ⟨rfl, hlt, cs, el, fz, hcs, rfl, fun q u hu => ?_⟩
    rw [hfl] at hu
    have := (List.getElem?_eq_some_iff.1 hu).1
    rw [hDl, hl0] at this
    omega
   ·rw [hcl]; exact .inr rfl
   ·exact .slice hβ (Nat.le_refl 0) (.inr ⟨k, hk, rfl, hl, by show 0 + (0 - 0) + cap * k ≤ cs.size; rw [hcap]; omega⟩) (.inl hcap)
  ·have hend : off + cap * k ≤ cs.size := hend.resolve_right (by omega)
   refine ⟨chunks k D, some ⟨blk, off, 0, cs.size⟩, ⟨fun y hy => ?_, fun i => ⟨.slice (some ⟨i, 0, none⟩) len (len + k), ?_, fun β hβ => ?_⟩, hcf⟩, hbulk⟩
   ·cases hy
    refine ⟨rfl, hlt, cs, el, fz, hcs, rfl, fun q u hu => ?_⟩
    rw [hfl] at hu
    have hq := (List.getElem?_eq_some_iff.1 hu).1
    rw [hDl] at hq
    rw [← hDg q hq]
    exact hu
   ·rw [hcl]; exact .inr rfl
   ·exact .slice hβ (Nat.le_refl 0) (.inr ⟨k, hk, rfl, hl, by show off + (0 - 0) + cap * k ≤ cs.size; omega⟩) (.inr (by simp [Bx.at_]))
theorem laid_all : laidOutB Try.prog = true := by kernel_rfl
theorem maps_all : mapsRowed Try.prog = true := by kernel_rfl
theorem sized_all : ((List.range Try.prog.types.size).all fun t => match Try.prog.underlying t with | some (.slice e) => decide (0 < Try.prog.cellsOf e) | _ => true) = true := by kernel_rfl
end Go.Proofs.Ytohhcnehcjpekaa
