/-
  An argument that is an answer: how it is opened, and how any argument is shut when nothing old was written.
-/
import Derived.Test.YtfgmplbclpadbaaGreatDoorMEn
import Derived.Test.YtfgmplbclpadbaaGreatDoorMLh
import Derived.ChangeStays
import Derived.ChangeBears
set_option linter.unusedSimpArgs false
set_option linter.unusedVariables false
namespace Go.Proofs.YtfgmplbclpadbaaGreatDoor
open Go Go.AM
open Go.ChangeShapes Go.WideShapes Go.ChangeAt Go.RowKit
set_option maxRecDepth 100000
def Fl (B : Nat) : Value -> Prop
 | .string s => s.size <= B
 | .int k n => (Lit.int k n).wf = true
 | _ => True
theorem Fl.mono {B B' : Nat} (h : B <= B') : ∀ {v : Value}, Fl B v -> Fl B' v := by
 intro v hv
 cases v <;> first | exact hv | exact Nat.le_trans hv h
theorem bulk_mem {H : Type} {d : DataW H} : ∀ {l : List (DataW H)}, d ∈ l -> Rows.uptoBulk d <= Rows.uptoBulkAll l
 | [], h => by cases h
 | a :: l, h => by
  simp only [Rows.uptoBulkAll]
  rcases List.mem_cons.1 h with rfl | h
  ·omega
  ·have := bulk_mem h; omega
section
variable {H : Type} {enc : TypeId × Value -> H} {P : Program} {w : World} {base : Nat} {sp : Nat -> Bool} {held : Bool}
theorem cells_sz {t : TypeId} {k : Nat} (h : szOf P t = some k) : P.cellsOf t = k := by
 unfold szOf at h
 unfold Program.cellsOf
 rw [h]; rfl
theorem flatFs_get {g : TypeId -> Option (List Lk)} : ∀ {fs : List Field} {off : Nat} {ks : List Lk}, flatFs P g fs off = some ks -> ∀ f ∈ fs, ∃ k0, g f.type = some k0 /\ k0.length = P.cellsOf f.type
 | [], _, _, _, f, hf => by cases hf
 | f0 :: fs, off, ks, h, f, hf => by
  unfold flatFs at h
  split at h
  case h_2 => cases h
  rename_i k0 k h1 h2
  split at h
  case isFalse => cases h
  rename_i hc
  rw [Option.map_eq_some_iff] at h
  obtain ⟨ks2, h3, _⟩ := h
  rcases List.mem_cons.1 hf with rfl | hf
  ·exact ⟨k0, h1, by rw [hc.2.2, cells_sz h2]⟩
  ·exact flatFs_get h3 f hf
theorem flatFs_cf {g : TypeId -> Option (List Lk)} {cs : List Value} {Q : Value -> Prop} : ∀ {fs : List Field} {off : Nat} {ks : List Lk}, flatFs P g fs off = some ks -> (∀ f ∈ fs, ∀ k0, g f.type = some k0 -> cf k0 ((cs.drop f.offset).take (P.cellsOf f.type)) = true /\ ∀ v ∈ (cs.drop f.offset).take (P.cellsOf f.type), Q v) -> off + ks.length = cs.length -> cf ks (cs.drop off) = true /\ ∀ v ∈ cs.drop off, Q v
 | [], off, ks, h, _, hl => by
  unfold flatFs at h
  cases h
  rw [List.drop_eq_nil_of_le (by simp at hl; omega)]
  exact ⟨rfl, fun v hv => by cases hv⟩
 | f0 :: fs, off, ks, h, hf, hl => by
  unfold flatFs at h
  split at h
  case h_2 => cases h
  rename_i k0 k h1 h2
  split at h
  case isFalse => cases h
  rename_i hc
  rw [Option.map_eq_some_iff] at h
  obtain ⟨ks2, h3, rfl⟩ := h
  have a := hf f0 (List.mem_cons_self ..) k0 h1
  rw [cells_sz h2, hc.2.1] at a
  rw [List.length_append, hc.2.2] at hl
  have b := flatFs_cf h3 (fun f hm => hf f (List.mem_cons_of_mem _ hm)) (by omega)
  have e : cs.drop off = (cs.drop off).take k ++ cs.drop (off + k) := by
   rw [<-List.drop_drop, List.take_append_drop]
  rw [e]
  exact ⟨cf_append a.1 b.1, fun v hv => (List.mem_append.1 hv).elim (a.2 v) (b.2 v)⟩
theorem rep_len {ks0 : List Lk} : ∀ {n : Nat}, (List.replicate n ks0).flatten.length = n * ks0.length
 | 0 => by simp
 | n + 1 => by rw [List.replicate_succ, List.flatten_cons, List.length_append, rep_len, Nat.add_mul]; omega
theorem rep_cf {ks0 : List Lk} {k : Nat} {Q : Value -> Prop} (hk : ks0.length = k) : ∀ {n : Nat} {cs : List Value}, (∀ i, i < n -> cf ks0 ((cs.drop (i * k)).take k) = true /\ ∀ v ∈ (cs.drop (i * k)).take k, Q v) -> cs.length = n * k -> cf (List.replicate n ks0).flatten cs = true /\ ∀ v ∈ cs, Q v
 | 0, cs, _, hl => by
  have : cs = [] := List.eq_nil_of_length_eq_zero (by omega)
  subst this; exact ⟨rfl, fun v hv => by cases hv⟩
 | n + 1, cs, h, hl => by
  have a := h 0 (by omega)
  rw [Nat.zero_mul, List.drop_zero] at a
  have b := rep_cf hk (n := n) (cs := cs.drop k) (fun i hi => by
   have := h (i + 1) (by omega)
   rw [List.drop_drop, show k + i * k = (i + 1) * k by rw [Nat.add_mul, Nat.one_mul]; omega]
   exact this) (by rw [List.length_drop, hl, Nat.add_mul]; omega)
  have e : cs = cs.take k ++ cs.drop k := (List.take_append_drop ..).symm
  rw [List.replicate_succ, List.flatten_cons, e]
  exact ⟨cf_append a.1 b.1, fun v hv => (List.mem_append.1 hv).elim (a.2 v) (b.2 v)⟩
theorem trod_fl : ∀ {d : Nat} {t : TypeId} {ks : List Lk}, flatTy P d t = some ks -> ks.length = P.cellsOf t -> ∀ {n : Nat} {cs : List Value} {x : DataW H × List MemPlace}, DataW.trod enc P w base sp held n t cs = some x -> cf ks cs = true /\ x.2 = [] /\ ∀ v ∈ cs, Fl (Rows.uptoBulk x.1) v
 | 0, _, _, h, _, _, _, _, _ => by cases h
 | d + 1, t, ks, h, hl, n, cs, x, hx => by
  unfold flatTy at h
  split at h
  ·rename_i hu
   cases h
   obtain ⟨b, rfl, rfl⟩ := DataW.trod_bool hu hx
   exact ⟨rfl, rfl, fun v hv => by rw [List.mem_singleton.1 hv]; trivial⟩
  ·rename_i k hu
   cases h
   obtain ⟨m, rfl, rfl, hw⟩ := DataW.trod_int hu hx
   exact ⟨by simp [cf, Lk.ok], rfl, fun v hv => by rw [List.mem_singleton.1 hv]; exact hw⟩
  ·rename_i hu
   cases h
   obtain ⟨s, rfl, rfl, _⟩ := DataW.trod_string hu hx
   exact ⟨rfl, rfl, fun v hv => by
    rw [List.mem_singleton.1 hv]
    show s.size <= s.data.toList.length + 1
    rw [Array.length_toList]
    exact Nat.le_succ _⟩
  ·rename_i fs hu
   split at h
   ·cases h
   ·obtain ⟨xs, m, rfl, rfl, hcl, hxl, hf⟩ := DataW.trod_struct hu hx
    have each : ∀ f ∈ fs.toList, ∀ k0, flatTy P d f.type = some k0 -> cf k0 ((cs.drop f.offset).take (P.cellsOf f.type)) = true /\ ∀ v ∈ (cs.drop f.offset).take (P.cellsOf f.type), Fl (Rows.uptoBulk (.agg (xs.map (·.1)))) v := by
     intro f hm k0 hk0
     obtain ⟨i, hi, he⟩ := List.getElem_of_mem hm
     have hi2 : i < fs.size := by simpa using hi
     have hg : fs[i]? = some f := by rw [Array.getElem?_eq_getElem hi2, <-he]; simp
     have q := hf i f hg
     rw [List.getElem?_eq_getElem (by omega)] at q
     obtain ⟨k1, e1, e2⟩ := flatFs_get h f hm
     rw [hk0] at e1
     cases e1
     have z := trod_fl hk0 e2 q
     refine ⟨z.1, fun v hv => Fl.mono ?_ (z.2.2 v hv)⟩
     have := bulk_mem (l := xs.map (·.1)) (List.mem_map_of_mem (List.getElem_mem (l := xs) (n := i) (by omega)))
     simp only [Rows.uptoBulk]
     omega
    refine ⟨?_, ?_, ?_⟩
    ·have q := flatFs_cf (cs := cs) h each (by omega)
     rw [List.drop_zero] at q
     exact q.1
    ·rw [List.flatMap_eq_nil_iff]
     intro y hy
     obtain ⟨i, hi, he⟩ := List.getElem_of_mem hy
     have hi2 : i < fs.size := by omega
     have q := hf i fs[i] (Array.getElem?_eq_getElem hi2)
     rw [List.getElem?_eq_getElem hi, he] at q
     obtain ⟨k1, e1, e2⟩ := flatFs_get h fs[i] (by simp)
     exact (trod_fl e1 e2 q).2.1
    ·have q := flatFs_cf (cs := cs) h each (by omega)
     rw [List.drop_zero] at q
     exact q.2
  ·rename_i m e hu
   split at h
   case h_2 => cases h
   rename_i ks0 k h1 h2
   split at h
   case isFalse => cases h
   rename_i hk
   cases h
   obtain ⟨xs, m', rfl, rfl, hcl, hxl, hf⟩ := DataW.trod_array hu hx
   have hce : P.cellsOf e = k := cells_sz h2
   have each : ∀ i (hi : i < m), cf ks0 ((cs.drop (i * k)).take k) = true /\ (xs[i]'(by omega)).2 = [] /\ ∀ v ∈ (cs.drop (i * k)).take k, Fl (Rows.uptoBulk (.agg (xs.map (·.1)))) v := by
    intro i hi
    have q := hf i hi
    rw [List.getElem?_eq_getElem (by omega), hce] at q
    have z := trod_fl h1 (by rw [hk, hce]) q
    refine ⟨z.1, z.2.1, fun v hv => Fl.mono ?_ (z.2.2 v hv)⟩
    have := bulk_mem (l := xs.map (·.1)) (List.mem_map_of_mem (List.getElem_mem (l := xs) (n := i) (by omega)))
    simp only [Rows.uptoBulk]
    omega
   have z := rep_cf (cs := cs) hk (fun i hi => ⟨(each i hi).1, (each i hi).2.2⟩) (by rw [hcl, <-hl, rep_len, hk])
   refine ⟨z.1, ?_, z.2⟩
   rw [List.flatMap_eq_nil_iff]
   intro y hy
   obtain ⟨i, hi, he⟩ := List.getElem_of_mem hy
   rw [<-he]
   exact (each i (by omega)).2.1
  ·cases h
end
theorem shut_old {H : Type} {enc : TypeId × Value -> H} {P : Program} {W W' : World} (hl : laidOutB P = true) (hm : mapsRowed P = true) (hsz : ((List.range P.types.size).all fun t => match P.underlying t with | some (.slice e) => decide (0 < P.cellsOf e) | _ => true) = true)
  {t : TypeId} {v : Value} {d : DataW H} {p : List MemPlace} (ht : t < P.types.size) (h : DataW.Trod enc P W 0 (fun _ => true) true t v d p) (ho : OldW W W') : DataW.Trod enc P W' 0 (fun b => decide (b < W.heap.size)) true t v d p := by
 obtain ⟨fuel, h⟩ := h
 have hlt := DataW.trod_lt _ _ _ _ h
 refine ⟨fuel, DataW.trod_stays (kids_rows hl hm) (fun {t e} ht hu => ?_) (fun q => by cases q) ht h (fun p hp => ?_) (fun p hp => decide_eq_true (hlt p hp))⟩
 ·have := List.all_eq_true.1 hsz t (List.mem_range.2 ht)
  rw [hu] at this
  exact of_decide_eq_true this
 ·have hb := hlt p hp
  cases p with
  | cell b off =>
   have hb : b < W.heap.size := hb
   show W'.cell? ⟨b, off, none⟩ = W.cell? ⟨b, off, none⟩
   unfold World.cell?
   simp only
   rw [ho.same b hb]
  | map b => exact ho.same b hb
theorem cf_cons {k : Lk} {ks : List Lk} : ∀ {cs : List Value}, cf (k :: ks) cs = true -> ∃ v r, cs = v :: r /\ k.ok v = true /\ cf ks r = true
 | [], h => by cases h
 | v :: r, h => by
  simp only [cf, Bool.and_eq_true] at h
  exact ⟨v, r, rfl, h⟩
theorem cf_nil {cs : List Value} (h : cf [] cs = true) : cs = [] := by
 cases cs with
 | nil => rfl
 | cons v r => cases h
theorem ok_i {κ : IntKind} {v : Value} (h : (Lk.int κ).ok v = true) : ∃ n, v = .int κ n := by
 cases v <;> first | (exact ⟨_, by rw [of_decide_eq_true h]⟩) | cases h
theorem ok_s {v : Value} (h : Lk.str.ok v = true) : ∃ s, v = .string s := by
 cases v <;> first | exact ⟨_, rfl⟩ | cases h
theorem cf_split : ∀ {k1 k2 : List Lk} {cs : List Value}, cf (k1 ++ k2) cs = true -> ∃ a b, cs = a ++ b /\ cf k1 a = true /\ cf k2 b = true
 | [], _, cs, h => ⟨[], cs, rfl, rfl, h⟩
 | k :: k1, k2, cs, h => by
  obtain ⟨v, r, rfl, h1, h2⟩ := cf_cons h
  obtain ⟨a, b, rfl, h3, h4⟩ := cf_split h2
  exact ⟨v :: a, b, rfl, by simp only [cf, h1, h3, Bool.and_self], h4⟩
theorem cf_u8 : ∀ {n : Nat} {cs : List Value}, cf (List.replicate n (.int .u8)) cs = true -> ∃ l : List Int, cs = bys l /\ l.length = n
 | 0, cs, h => ⟨[], cf_nil h, rfl⟩
 | n + 1, cs, h => by
  rw [List.replicate_succ] at h
  obtain ⟨v, r, rfl, h1, h2⟩ := cf_cons h
  obtain ⟨x, rfl⟩ := ok_i h1
  obtain ⟨l, rfl, hl⟩ := cf_u8 h2
  exact ⟨x :: l, rfl, by rw [List.length_cons, hl]⟩
theorem ans_of {cs : List Value} {B : Nat} (h : cf T.K35 cs = true) (hF : ∀ v ∈ cs, Fl B v) : ∃ a : Ans, a.C = cs /\ (B <= 1048576 -> a.Ok) := by
 have e : T.K35 = [.int .i64, .int .i64] ++ (List.replicate 16 (.int .u8) ++ ([.str, .int .i64, .int .i64, .int .i64, .int .i64, .int .i64, .str, .int .i64, .int .i64, .int .i64, .int .i64] ++ (List.replicate 16 (.int .u8) ++ [.str]))) := rfl
 rw [e] at h
 obtain ⟨c1, r1, rfl, h1, h⟩ := cf_split h
 obtain ⟨c2, r2, rfl, h2, h⟩ := cf_split h
 obtain ⟨c3, r3, rfl, h3, h⟩ := cf_split h
 obtain ⟨c4, c5, rfl, h4, h5⟩ := cf_split h
 obtain ⟨pd, rfl, pl⟩ := cf_u8 h2
 obtain ⟨rt, rfl, rl⟩ := cf_u8 h4
 obtain ⟨vh10, qh10, rfl, oh10, h1_1⟩ := cf_cons h1
 obtain ⟨w, rfl⟩ := ok_i oh10
 obtain ⟨vh11, qh11, rfl, oh11, h1_2⟩ := cf_cons h1_1
 obtain ⟨q_, rfl⟩ := ok_i oh11
 obtain rfl := cf_nil h1_2
 obtain ⟨vh30, qh30, rfl, oh30, h3_1⟩ := cf_cons h3
 obtain ⟨ts, rfl⟩ := ok_s oh30
 obtain ⟨vh31, qh31, rfl, oh31, h3_2⟩ := cf_cons h3_1
 obtain ⟨k, rfl⟩ := ok_i oh31
 obtain ⟨vh32, qh32, rfl, oh32, h3_3⟩ := cf_cons h3_2
 obtain ⟨f, rfl⟩ := ok_i oh32
 obtain ⟨vh33, qh33, rfl, oh33, h3_4⟩ := cf_cons h3_3
 obtain ⟨sk, rfl⟩ := ok_i oh33
 obtain ⟨vh34, qh34, rfl, oh34, h3_5⟩ := cf_cons h3_4
 obtain ⟨sd, rfl⟩ := ok_i oh34
 obtain ⟨vh35, qh35, rfl, oh35, h3_6⟩ := cf_cons h3_5
 obtain ⟨o_, rfl⟩ := ok_i oh35
 obtain ⟨vh36, qh36, rfl, oh36, h3_7⟩ := cf_cons h3_6
 obtain ⟨wh, rfl⟩ := ok_s oh36
 obtain ⟨vh37, qh37, rfl, oh37, h3_8⟩ := cf_cons h3_7
 obtain ⟨si, rfl⟩ := ok_i oh37
 obtain ⟨vh38, qh38, rfl, oh38, h3_9⟩ := cf_cons h3_8
 obtain ⟨st, rfl⟩ := ok_i oh38
 obtain ⟨vh39, qh39, rfl, oh39, h3_10⟩ := cf_cons h3_9
 obtain ⟨al, rfl⟩ := ok_i oh39
 obtain ⟨vh310, qh310, rfl, oh310, h3_11⟩ := cf_cons h3_10
 obtain ⟨wa, rfl⟩ := ok_i oh310
 obtain rfl := cf_nil h3_11
 obtain ⟨vh50, qh50, rfl, oh50, h5_1⟩ := cf_cons h5
 obtain ⟨sg, rfl⟩ := ok_s oh50
 obtain rfl := cf_nil h5_1
 refine ⟨⟨w, q_, k, f, sk, sd, o_, si, st, al, wa, pd, rt, ts, wh, sg⟩, rfl, fun hB => ⟨fun x hx => ?_, pl, rl, fun x hx => ?_, fun x hx => ?_, ?_, ?_, ?_⟩⟩
 ·refine lit_inR (hF (.int .i64 x) ?_)
  simp only [List.mem_cons, List.not_mem_nil, or_false] at hx
  rcases hx with rfl | rfl | rfl | rfl | rfl | rfl | rfl | rfl | rfl | rfl | rfl <;> simp only [List.mem_append, List.mem_cons, true_or, or_true]
 ·exact lit_u8 (hF (.int .u8 x) (List.mem_append_right _ (List.mem_append_left _ (List.mem_map_of_mem hx))))
 ·exact lit_u8 (hF (.int .u8 x) (List.mem_append_right _ (List.mem_append_right _ (List.mem_append_right _ (List.mem_append_left _ (List.mem_map_of_mem hx))))))
 ·have : ts.size <= B := hF (.string ts) (by simp only [List.mem_append, List.mem_cons, true_or, or_true])
  show ts.size <= _
  omega
 ·have : wh.size <= B := hF (.string wh) (by simp only [List.mem_append, List.mem_cons, true_or, or_true])
  show wh.size <= _
  omega
 ·have : sg.size <= B := hF (.string sg) (by simp only [List.mem_append, List.mem_cons, true_or, or_true])
  show sg.size <= _
  omega
theorem arg_ans {H : Type} {enc : TypeId × Value -> H} {W : World} {b0 : Nat} {v : Value} {d : DataW H} {p : List MemPlace} (hval : Value.okWide Tryz.prog W .any b0 35 v) (h : DataW.Trod enc Tryz.prog W 0 (fun _ => true) true 35 v d p) : ∃ a : Ans, v = .agg ⟨a.C⟩ /\ (Rows.uptoBulk d <= 1048576 -> a.Ok) := by
 unfold Value.okWide at hval
 rw [Tryz.underlying35] at hval
 obtain ⟨cs, rfl, -, -⟩ := hval
 obtain ⟨fuel, h⟩ := h
 have z := trod_fl (cs := cs.toList) T.f35 (by kernel_rfl) h
 obtain ⟨a, h1, h2⟩ := ans_of z.1 z.2.2
 refine ⟨a, ?_, h2⟩
 rw [h1]
theorem laid_all : laidOutB Tryz.prog = true := by kernel_rfl
theorem maps_all : mapsRowed Tryz.prog = true := by kernel_rfl
theorem sized_all : ((List.range Tryz.prog.types.size).all fun t => match Tryz.prog.underlying t with | some (.slice e) => decide (0 < Tryz.prog.cellsOf e) | _ => true) = true := by kernel_rfl
theorem in_types : 35 < Tryz.prog.types.size := of_decide_eq_true (by kernel_rfl)
end Go.Proofs.YtfgmplbclpadbaaGreatDoor
