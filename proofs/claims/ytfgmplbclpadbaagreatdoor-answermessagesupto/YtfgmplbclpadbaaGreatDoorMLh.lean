/-
  Bytes, Ints, Strings of the reference.
-/
import Derived.Test.YtfgmplbclpadbaaGreatDoorMWn
import Derived.Test.YtfgmplbclpadbaaGreatDoorMA3
set_option linter.unusedSimpArgs false
set_option linter.unusedVariables false
namespace Go.Proofs.YtfgmplbclpadbaaGreatDoor
open Go Go.AM
def sB (s : ByteArray) : List Int := s.data.toList.map fun c => (c.toNat : Int)
theorem sB_len (s : ByteArray) : (sB s).length = s.size := List.length_map ..
theorem sB_byt (s : ByteArray) : Byt (sB s) := by
 intro x hx
 obtain ⟨c, _, rfl⟩ := List.mem_map.1 hx
 have := c.toNat_lt
 omega
theorem sB_row (s : ByteArray) : (s.data.toList.map fun c => Value.int .u8 c.toNat) = bys (sB s) := by
 unfold bys sB
 rw [List.map_map]; rfl
theorem encI_len {n : Int} (hn : inR n) : 1 <= (encI n).length /\ (encI n).length <= 9 := by
 have := dg_len hn
 rw [enc_eq, List.length_cons, List.length_map, List.length_reverse]
 omega
def encP {α : Type} (f : α -> List Int) (l : List α) (i : Nat) : List Int := encI l.length ++ (l.take i).flatMap f
def encL {α : Type} (f : α -> List Int) (l : List α) : List Int := encI l.length ++ l.flatMap f
section
variable {α : Type} {f : α -> List Int} {l : List α} {i : Nat}
theorem encP_0 : encP f l 0 = encI l.length := by unfold encP; rw [List.take_zero, List.flatMap_nil, List.append_nil]
theorem encP_next (h : i < l.length) : encP f l (i + 1) = encP f l i ++ f l[i] := by
 unfold encP
 rw [List.take_succ_eq_append_getElem h, List.flatMap_append, List.append_assoc]
 simp only [List.flatMap_cons, List.flatMap_nil, List.append_nil]
theorem encP_all (h : l.length <= i) : encP f l i = encL f l := by unfold encP encL; rw [List.take_of_length_le h]
theorem encP_le : (encP f l i).length <= (encL f l).length := by
 unfold encP encL
 have h : l.flatMap f = (l.take i).flatMap f ++ (l.drop i).flatMap f := by rw [<-List.flatMap_append, List.take_append_drop]
 rw [h]
 simp only [List.length_append]
 omega
theorem encL_byt (hl : inR l.length) (h : ∀ x ∈ l, Byt (f x)) : Byt (encL f l) := by
 refine byt_app (enc_byt hl) fun x hx => ?_
 obtain ⟨y, hy, hx⟩ := List.mem_flatMap.1 hx
 exact h y hy x hx
end
def intsB (ns : List Int) : List Int := encL encI ns
def bytesB (s : ByteArray) : List Int := encI s.size ++ sB s
def strsB (ss : List ByteArray) : List Int := encL bytesB ss
def BPost (bs : List Int) (k : Nat) (t : Tr AObj) (nx wr : Nat) (v : Value) (h' : AH) : Prop := ∃ t' nx' wr', h' = ⟨t', nx', wr'⟩ /\ Fr t nx wr t' nx' wr' k /\ ∃ S, AccP t' nx nx' S 1 v bs.length (bys bs)
theorem ABp.fr {t00 t t' : Tr AObj} {n00 w00 nx wr nx' wr' n0 k : Nat} {S S' : Nat -> Prop} {w v' : Value} {L M : List Int} (h : ABp t nx wr n0 S w L M v' t' nx' wr' S') (hF : Fr t00 n00 w00 t nx wr k) (hn : n00 <= n0) (hS : ∀ x, S x -> n0 <= x) : Fr t00 n00 w00 t' nx' wr' (k + 1) := by
 have a := h.le; have b := h.hi; have c := h.wlo; have d := h.whi
 have a1 := hF.le; have b1 := hF.hi; have c1 := hF.wlo; have d1 := hF.whi
 exact ⟨by omega, by omega, by omega, by omega, fun i hi => (h.same i (fun q => by have := hS i q; omega) (by omega)).trans (hF.same i hi)⟩
theorem Fr.alloc {t00 t : Tr AObj} {n00 w00 nx wr k : Nat} {o : AObj} (hF : Fr t00 n00 w00 t nx wr k) : Fr t00 n00 w00 (t.set nx o) (nx + 1) wr (k + 1) := by
 have a1 := hF.le; have b1 := hF.hi; have c1 := hF.wlo; have d1 := hF.whi
 exact ⟨by omega, by omega, c1, d1, fun i hi => by rw [Tr.get_set, if_neg (by omega)]; exact hF.same i hi⟩
theorem Fr.low {t00 t : Tr AObj} {n00 w00 nx wr k k' : Nat} (hF : Fr t00 n00 w00 t nx wr k) (h : k <= k') : Fr t00 n00 w00 t nx wr k' := ⟨hF.le, by have := hF.hi; omega, hF.wlo, hF.whi, hF.same⟩
theorem x_convSB {P : Program} {call : Call'} {e : Tr Value} {o : Oper} {S T el : TypeId} {x : Operand} {s : ByteArray} {t : Tr AObj} {nx wr : Nat} (ho : o.op = .convert S T x) (hx : ev e x = some (.string s)) (hs : P.underlying S = some .string) (hd : P.underlying T = some (.slice el)) (he : P.underlying el = some (.int .u8)) :
  doOp P call e ⟨t, nx, wr⟩ o = some (.slice (some ⟨nx, 0, none⟩) (sB s).length ((sB s).length + 1), ⟨t.set nx (.row (bys (sB s)) nx BIG false (bys (sB s)).length), nx + 1, wr⟩) := by
 rw [do_op_convert ho, hx]
 simp only [convV, hs, hd, he, sB_row, sB_len]
 rfl
theorem x_lenT {P : Program} {call : Call'} {e : Tr Value} {h : AH} {o : Oper} {c : Call} {T : TypeId} {s : ByteArray} (ho : o.op = .call c) (hc : c.callee = .builtin .len) (ha : evs e c.args.toList = some [.string s]) (ht : c.argTypes[0]? = some T) (hu : P.underlying T = some .string) : doOp P call e h o = some (.int .i64 s.size, h) := by
 unfold doOp
 rw [ho]
 simp only [doCall, ha, hc, abuiltin, lenV, ht]
 have hq : quick P (Builtin.len_ c.argTypes o.type #[.string s]) = some (.int .i64 s.size) := by
  unfold Builtin.len_
  rw [ht]
  simp only [List.getElem?_toArray, List.getElem?_cons_zero]
  rw [quick_bind, run_und hu, Option.bind_some]
  rfl
 rw [hq]
 rfl
def LV (t : Tr AObj) (nx k : Nat) (v : Value) (n : Nat) (d : List Value) : Prop := (n = 0 /\ d = [] /\ ∃ a c, v = .slice a 0 c) \/ (0 < n /\ d.length = n * k /\ ∃ id r c, v = .slice (some ⟨id, 0, none⟩) n c /\ OwnR t r id d /\ r < nx /\ id < nx)
theorem LV.own {t : Tr AObj} {nx k n : Nat} {v : Value} {d : List Value} (h : LV t nx k v n d) (hn : 0 < n) : ∃ id r c, v = .slice (some ⟨id, 0, none⟩) n c /\ OwnR t r id d /\ r < nx /\ id < nx := by
 rcases h with ⟨rfl, _, _⟩ | ⟨_, _, h⟩
 ·omega
 ·exact h
theorem LV.uniq {t : Tr AObj} {nx nx' k n n' : Nat} {v : Value} {d d' : List Value} (h : LV t nx k v n d) (h' : LV t nx' k v n' d') : n' = n /\ d' = d := by
 rcases h with ⟨rfl, rfl, a, c, rfl⟩ | ⟨h0, hd, id, r, c, rfl, h2, _, _⟩
 ·rcases h' with ⟨rfl, rfl, _⟩ | ⟨h0', _, id', r', c', h1, _⟩
  ·exact ⟨rfl, rfl⟩
  ·simp only [Value.slice.injEq] at h1; omega
 ·rcases h' with ⟨_, _, a', c', h1⟩ | ⟨h0', hd', id', r', c', h1, h2', _, _⟩
  ·simp only [Value.slice.injEq] at h1; omega
  ·simp only [Value.slice.injEq, Option.some.injEq, Addr.mk.injEq, and_true, true_and] at h1
   obtain ⟨rfl, rfl, _⟩ := h1
   have a := l_all (h2.whole (nx := 0) (wr := 0)) rfl
   have b := l_all (h2'.whole (nx := 0) (wr := 0)) rfl
   rw [hd] at a
   rw [hd', a] at b
   exact ⟨rfl, (Option.some.inj b).symm⟩
theorem x_lenL {P : Program} {call : Call'} {e : Tr Value} {h : AH} {o : Oper} {c : Call} {T el : TypeId} {t : Tr AObj} {nx k n : Nat} {v : Value} {d : List Value} (hs : LV t nx k v n d) (ho : o.op = .call c) (hc : c.callee = .builtin .len) (ha : evs e c.args.toList = some [v]) (ht : c.argTypes[0]? = some T) (hu : P.underlying T = some (.slice el)) :
  doOp P call e h o = some (.int .i64 n, h) := by
 rcases hs with ⟨rfl, _, a, cp, rfl⟩ | ⟨_, _, id, r, cp, rfl, _⟩ <;> exact x_len ho hc ha ht hu
theorem lv_row {t : Tr AObj} {nx k n id c : Nat} {d : List Value} (hr : t.get id = some (.row d id BIG false d.length)) (hid : id < nx) (hd : d.length = n * k) : LV t nx k (.slice (some ⟨id, 0, none⟩) n c) n d := by
 rcases Nat.eq_zero_or_pos n with rfl | h0
 ·exact .inl ⟨rfl, List.eq_nil_of_length_eq_zero (by omega), _, _, rfl⟩
 ·exact .inr ⟨h0, hd, id, id, c, rfl, ⟨BIG, 0, rfl, .inl ⟨rfl, hr⟩⟩, hid, hid⟩
def strC (ss : List ByteArray) : List Value := ss.map .string
end Go.Proofs.YtfgmplbclpadbaaGreatDoor
namespace Go.Proofs.YtfgmplbclpadbaaGreatDoor
open Go.AM
set_option maxRecDepth 100000
set_option maxHeartbeats 1000000
set_option maxHeartbeats 8000000
def R_bytes : List Value -> AH -> Value -> AH -> Prop := fun args h v h' => ∀ s, args = [.string s] -> BPost (bytesB s) (62) h.t h.next h.wr v h'
noncomputable def c_bytes := cEx Tryz.prog 22 R_bytes
theorem con_bytes : Con Tryz.prog 22 c_bytes := con_ex Tryz.func22 rfl
theorem bytes_c {t : Tr AObj} {nx wr : Nat} {s : ByteArray} (hs : s.size <= 1000000000) (hN : nx + (62) + 100 <= BIG) (hwr : wr <= BIG) : ∃ v h', c_bytes [.string s] ⟨t, nx, wr⟩ = some (v, h') /\ BPost (bytesB s) (62) t nx wr v h' := by
 have hP := Fits
 have hC : CallSound Tryz.prog (tabOf [(23, c_int)]) := tab_sound (tab_cons con_int tab_end)
 have hF0 : Fr t nx wr t nx wr 0 := Fr.refl
 have hsl := sB_len s
 have hin : inR (s.size : Int) := by unfold inR; omega
 have hel := encI_len hin
 suffices key : SureK Tryz.prog ⟨t, nx, wr⟩ _ [] _ (EndR Tryz.prog _ (R_bytes [.string s] ⟨t, nx, wr⟩)) by
  obtain ⟨v, h', q, c⟩ := sure_start (R := R_bytes) (sz := 9) Tryz.func22 rfl rfl zo key
  exact ⟨v, h', q, c s rfl⟩
 refine s_seq (s_region hP hC (oA ?_))
 refine o_done (se_seq (s_seq (s_region hP hC (oM ?_))))
 refine os (x_lenT rfl rfl zv rfl u9) ?_
 refine o_callR (tab_hitR (int_c hin ow ow)) (wA_none rfl) rfl rfl rfl zv zd (fun v1 h1 hR1 => ?_)
 obtain ⟨t1, nx1, wz1, rfl, hf1, S1, ac1⟩ := hR1
 have qa1 := hf1.le
 have qb1 : nx1 <= nx + 60 := hf1.hi
 have qc1 := hf1.wlo
 have qd1 := hf1.whi
 have hF2 : Fr t nx wr _ _ _ (0 + 60) := Fr.trans hF0 hf1 (Nat.le_refl _)
 refine oM ?_
 refine os (x_convSB rfl zt u9 u23 u5) ?_
 refine o_appB ac1 (cells_bv (bv_row (K := fun i => i = nx1) rfl (by rw [gp rfl])) u23 T.s5) (wA_none rfl) rfl rfl rfl zv rfl rfl zr u23 T.i23 zd ow (fun x q => by have := ac1.bnd x q; rw [gn ow]) ow ow (fun v3 t3 nx3 wz3 S3 hA3 => ?_)
 have qa3 := hA3.le
 have qb3 := hA3.hi
 have qc3 := hA3.wlo
 have qd3 := hA3.whi
 have ac3 := hA3.acc
 have hF4 : Fr t nx wr _ _ _ (0 + 60 + 1 + 1) := ABp.fr hA3 (Fr.alloc hF2) ow (fun x q => (ac1.bnd x q).1)
 refine oA ?_
 refine o_done (se_seq ?_)
 refine s_ret ?_
 refine ⟨.inr rfl, _, (by simp only [Tryz.results22, resA, Tr.get_set, reduceIte, Nat.reduceEqDiff, Nat.reduceAdd] <;> rfl), fun s2 hs2 => ?_⟩
 cases hs2
 exact ⟨_, _, _, rfl, Fr.low hF4 ow, _, AccP.low ac3 (Nat.le_refl _)⟩
theorem ints_inj' {a b : List Int} (h : ints a = ints b) : a = b := by
 have := congrArg unints h
 rwa [unints_ints, unints_ints] at this
theorem strC_inj : ∀ {a b : List ByteArray}, strC a = strC b -> a = b
 | [], [], _ => rfl
 | [], _ :: _, h => by cases h
 | _ :: _, [], h => by cases h
 | x :: a, y :: b, h => by
  simp only [strC, List.map_cons, List.cons.injEq, Value.string.injEq] at h
  rw [h.1, strC_inj h.2]
theorem flat_ge {α : Type} {f : α -> List Int} : ∀ (l : List α), (∀ x ∈ l, 1 <= (f x).length) -> l.length <= (l.flatMap f).length
 | [], _ => Nat.zero_le _
 | x :: l, h => by
  have := flat_ge l fun y hy => h y (List.mem_cons_of_mem _ hy)
  have := h x (List.mem_cons_self ..)
  rw [List.flatMap_cons, List.length_append, List.length_cons]
  omega
theorem encI_pos (n : Int) : 1 <= (encI n).length := by rw [enc_eq, List.length_cons]; omega
theorem ints_len (l : List Int) : l.length <= (intsB l).length := by
 have := flat_ge (f := encI) l fun x _ => encI_pos x
 unfold intsB encL; rw [List.length_append]; omega
theorem strs_len (l : List ByteArray) : l.length <= (strsB l).length := by
 have := flat_ge (f := bytesB) l fun x _ => by unfold bytesB; rw [List.length_append]; have := encI_pos x.size; omega
 unfold strsB encL; rw [List.length_append]; omega
def R_ints : List Value -> AH -> Value -> AH -> Prop := fun args h v h' => ∀ l s, args = [s] -> LV h.t h.next 1 s l.length (ints l) -> BPost (intsB l) (62 * l.length + 70) h.t h.next h.wr v h'
noncomputable def c_ints := cEx Tryz.prog 8 R_ints
theorem con_ints : Con Tryz.prog 8 c_ints := con_ex Tryz.func8 rfl
theorem ints_c {t : Tr AObj} {nx wr : Nat} {s : Value} {l : List Int} (hrd : LV t nx 1 s l.length (ints l)) (hel : ∀ x ∈ l, inR x) (hlen : (intsB l).length <= 10000000) (hN : nx + (62 * l.length + 70) + 100 <= BIG) (hwr : wr <= BIG) : ∃ v h', c_ints [s] ⟨t, nx, wr⟩ = some (v, h') /\ BPost (intsB l) (62 * l.length + 70) t nx wr v h' := by
 have hP := Fits
 have hC : CallSound Tryz.prog (tabOf [(23, c_int)]) := tab_sound (tab_cons con_int tab_end)
 have hF0 : Fr t nx wr t nx wr 0 := Fr.refl
 have hle : ∀ i, (encP encI l i).length <= 10000000 := fun i => Nat.le_trans encP_le hlen
 have hll : l.length <= 10000000 := Nat.le_trans (ints_len l) hlen
 have hin : inR (l.length : Int) := by unfold inR; omega
 suffices key : SureK Tryz.prog ⟨t, nx, wr⟩ _ [] _ (EndR Tryz.prog _ (R_ints [s] ⟨t, nx, wr⟩)) by
  obtain ⟨v, h', q, c⟩ := sure_start (R := R_ints) (sz := 22) Tryz.func8 rfl rfl zo key
  exact ⟨v, h', q, c l s rfl hrd⟩
 refine s_seq (s_region hP hC (oA ?_))
 refine o_done (se_seq (s_seq (s_region hP hC (oM ?_))))
 refine os (x_lenL hrd rfl rfl zv rfl u22) ?_
 refine o_callR (tab_hitR (int_c hin ow ow)) (wA_none rfl) rfl rfl rfl zv zd (fun v1 h1 hR1 => ?_)
 obtain ⟨t1, nx1, wz1, rfl, hf1, S1, ac1⟩ := hR1
 have qa1 := hf1.le
 have qb1 : nx1 <= nx + 60 := hf1.hi
 have qc1 := hf1.wlo
 have qd1 := hf1.whi
 have hF2 : Fr t nx wr _ _ _ (0 + 60) := Fr.trans hF0 hf1 (Nat.le_refl _)
 refine oA ?_
 refine o_done (se_seq (s_seq (s_seq (s_region hP hC (oA ?_)))))
 refine o_done (se_seq (s_block ?_))
 refine s_loop (α := Int) (fun i s' => ∃ v e t1 nx1 wq1 S, s' = ⟨e, 22, ⟨t1, nx1, wq1⟩⟩ /\ e.get 0 = some (s) /\ e.get 3 = some (v) /\ e.get 4 = some (.int .i64 i) /\ 0 <= i /\ i <= l.length /\ AccP t1 nx nx1 S 1 v (encP encI l i.toNat).length (bys (encP encI l i.toNat)) /\ Fr t nx wr t1 nx1 wq1 (62 * i.toNat + 60)) (fun i => (l.length - i).toNat) 0 ⟨_, _, _, _, _, _, rfl, (by (repeat (first | rw [gn ow] | rw [hf1.same _ ow])) <;> first | rfl | assumption | (rw [gp ow]; done) | (rw [gp ow]; rfl)), (by (repeat (first | rw [gn ow] | rw [hf1.same _ ow])) <;> first | rfl | assumption | (rw [gp ow]; done) | (rw [gp ow]; rfl)), (by (repeat (first | rw [gn ow] | rw [hf1.same _ ow])) <;> first | rfl | assumption | (rw [gp ow]; done) | (rw [gp ow]; rfl)), by omega, by omega, by rw [Int.toNat_zero, encP_0]; exact ac1, Fr.low hF2 ow⟩ ?_
 rintro i s' ⟨v, e, t1, nx1, wq1, S, rfl, heb0, heb3, heb4, i0, i1, aA, hG⟩
 have g1 := hG.le
 have g2 := hG.hi
 have g3 := hG.wlo
 have g4 := hG.whi
 refine s_seq (s_seq (s_region hP hC (oM ?_)))
 refine oM ?_
 refine os (x_lenL hrd rfl rfl ze rfl u22) ?_
 refine os (x_bin rfl za za b_lss) ?_
 refine o_done (se_seq ?_)
 refine s_cond za (fun g2 => ?_) (fun g2 => ?_)
 ·have p2 := g2; try simp only [dd] at p2
  refine s_skip (se_seq (s_seq (s_block (s_region hP hC (oM ?_)))))
  refine oM ?_
  refine oM ?_
  obtain ⟨idD, roD, cpD, rfl, oD, oD1, oD2⟩ := hrd.own ow
  have hi1 : i.toNat < l.length := by omega
  have hnx := encP_next (f := encI) hi1
  have hnl := congrArg List.length hnx
  have hl1 := hle (i.toNat + 1)
  rw [List.length_append] at hnl
  have hei : inR (ith l i) := hel _ (ith_mem i0 ow)
  refine os (x_index rfl za za u22 T.s3 ow ow) ?_
  refine os (x_load1 rfl za T.g3 (l_ints ((oD.keep (hG.same _ ow) (hG.same _ ow)).whole) i0 ow)) ?_
  refine o_callR (tab_hitR (int_c (n := ith l i) hei ow ow)) (wA_none rfl) rfl rfl rfl ze zd (fun v3 h3 hR3 => ?_)
  obtain ⟨t3, nx3, wz3, rfl, hf3, S3, ac3⟩ := hR3
  have qa3 := hf3.le
  have qb3 : nx3 <= nx1 + 60 := hf3.hi
  have qc3 := hf3.wlo
  have qd3 := hf3.whi
  have hF4 : Fr t nx wr _ _ _ (62 * i.toNat + 60 + 60) := Fr.trans hG hf3 (Nat.le_refl _)
  refine o_appB aA (cells_bv (acc_bv ac3) u23 T.s5) (wA_none rfl) rfl rfl rfl ze rfl rfl zr u23 T.i23 zd ow (fun x q => hf3.same x (by have := aA.bnd x q; omega)) ow (by rw [ith_eq i0 ow]; omega) (fun v5 t5 nx5 wz5 S5 hA5 => ?_)
  have qa5 := hA5.le
  have qb5 := hA5.hi
  have qc5 := hA5.wlo
  have qd5 := hA5.whi
  have ac5 := hA5.acc
  have hF6 : Fr t nx wr _ _ _ (62 * i.toNat + 60 + 60 + 1) := ABp.fr hA5 hF4 ow (fun x q => (aA.bnd x q).1)
  refine oA ?_
  refine o_done (se_block (se_seq (s_region hP hC (oM ?_))))
  refine os (x_bin rfl za (by rfl) b_add) ?_
  refine oA ?_
  refine o_done ?_
  refine se_loop ?_
  have hw1 : IntKind.i64.wrap (i + 1) = i + 1 := wr1 ow ow
  have e1 : (i + 1).toNat = i.toNat + 1 := by omega
  refine ⟨i + 1, ⟨v5, _, _, _, _, _, rfl, za, za, (by simp only [Tr.get_set, reduceIte, Nat.reduceEqDiff, Nat.reduceAdd, hw1, heb0, heb3, heb4, g2] <;> rfl), by omega, by omega, by rw [e1, encP_next hi1, <-ith_eq i0 ow]; exact ac5, Fr.low hF6 (by rw [e1]; omega)⟩, by omega⟩
 ·have p2 := g2; try simp only [dd] at p2
  refine s_exit ?_
  refine se_seq_exit ?_
  refine se_loop_exit ?_
  refine se_block_eq (se_seq (s_seq (s_region hP hC (oM ?_))))
  refine oA ?_
  refine o_done (se_seq ?_)
  refine s_ret ?_
  refine ⟨.inr rfl, _, (by simp only [Tryz.results8, resA, Tr.get_set, reduceIte, Nat.reduceEqDiff, Nat.reduceAdd, heb0, heb3, heb4, g2] <;> rfl), fun l2 s2 hs2 hr2 => ?_⟩
  cases hs2
  obtain rfl : l2 = l := ints_inj' (hrd.uniq hr2).2
  have hil : i.toNat = l2.length := by omega
  rw [hil] at hG
  rw [encP_all ow] at aA
  exact ⟨_, _, _, rfl, Fr.low hG ow, _, aA⟩
def R_strs : List Value -> AH -> Value -> AH -> Prop := fun args h v h' => ∀ l s, args = [s] -> LV h.t h.next 1 s l.length (strC l) -> BPost (strsB l) (64 * l.length + 70) h.t h.next h.wr v h'
noncomputable def c_strs := cEx Tryz.prog 48 R_strs
theorem con_strs : Con Tryz.prog 48 c_strs := con_ex Tryz.func48 rfl
theorem strs_c {t : Tr AObj} {nx wr : Nat} {s : Value} {l : List ByteArray} (hrd : LV t nx 1 s l.length (strC l)) (hel : ∀ x ∈ l, x.size <= 1000000000) (hlen : (strsB l).length <= 10000000) (hN : nx + (64 * l.length + 70) + 100 <= BIG) (hwr : wr <= BIG) : ∃ v h', c_strs [s] ⟨t, nx, wr⟩ = some (v, h') /\ BPost (strsB l) (64 * l.length + 70) t nx wr v h' := by
 have hP := Fits
 have hC : CallSound Tryz.prog (tabOf [(23, c_int), (22, c_bytes)]) := tab_sound (tab_cons con_int (tab_cons con_bytes tab_end))
 have hF0 : Fr t nx wr t nx wr 0 := Fr.refl
 have hle : ∀ i, (encP bytesB l i).length <= 10000000 := fun i => Nat.le_trans encP_le hlen
 have hll : l.length <= 10000000 := Nat.le_trans (strs_len l) hlen
 have hin : inR (l.length : Int) := by unfold inR; omega
 suffices key : SureK Tryz.prog ⟨t, nx, wr⟩ _ [] _ (EndR Tryz.prog _ (R_strs [s] ⟨t, nx, wr⟩)) by
  obtain ⟨v, h', q, c⟩ := sure_start (R := R_strs) (sz := 22) Tryz.func48 rfl rfl zo key
  exact ⟨v, h', q, c l s rfl hrd⟩
 refine s_seq (s_region hP hC (oA ?_))
 refine o_done (se_seq (s_seq (s_region hP hC (oM ?_))))
 refine os (x_lenL hrd rfl rfl zv rfl u55) ?_
 refine o_callR (tab_hitR (int_c hin ow ow)) (wA_none rfl) rfl rfl rfl zv zd (fun v1 h1 hR1 => ?_)
 obtain ⟨t1, nx1, wz1, rfl, hf1, S1, ac1⟩ := hR1
 have qa1 := hf1.le
 have qb1 : nx1 <= nx + 60 := hf1.hi
 have qc1 := hf1.wlo
 have qd1 := hf1.whi
 have hF2 : Fr t nx wr _ _ _ (0 + 60) := Fr.trans hF0 hf1 (Nat.le_refl _)
 refine oA ?_
 refine o_done (se_seq (s_seq (s_seq (s_region hP hC (oA ?_)))))
 refine o_done (se_seq (s_block ?_))
 refine s_loop (α := Int) (fun i s' => ∃ v e t1 nx1 wq1 S, s' = ⟨e, 22, ⟨t1, nx1, wq1⟩⟩ /\ e.get 0 = some (s) /\ e.get 3 = some (v) /\ e.get 4 = some (.int .i64 i) /\ 0 <= i /\ i <= l.length /\ AccP t1 nx nx1 S 1 v (encP bytesB l i.toNat).length (bys (encP bytesB l i.toNat)) /\ Fr t nx wr t1 nx1 wq1 (64 * i.toNat + 60)) (fun i => (l.length - i).toNat) 0 ⟨_, _, _, _, _, _, rfl, (by (repeat (first | rw [gn ow] | rw [hf1.same _ ow])) <;> first | rfl | assumption | (rw [gp ow]; done) | (rw [gp ow]; rfl)), (by (repeat (first | rw [gn ow] | rw [hf1.same _ ow])) <;> first | rfl | assumption | (rw [gp ow]; done) | (rw [gp ow]; rfl)), (by (repeat (first | rw [gn ow] | rw [hf1.same _ ow])) <;> first | rfl | assumption | (rw [gp ow]; done) | (rw [gp ow]; rfl)), by omega, by omega, by rw [Int.toNat_zero, encP_0]; exact ac1, Fr.low hF2 ow⟩ ?_
 rintro i s' ⟨v, e, t1, nx1, wq1, S, rfl, heb0, heb3, heb4, i0, i1, aA, hG⟩
 have g1 := hG.le
 have g2 := hG.hi
 have g3 := hG.wlo
 have g4 := hG.whi
 refine s_seq (s_seq (s_region hP hC (oM ?_)))
 refine oM ?_
 refine os (x_lenL hrd rfl rfl ze rfl u55) ?_
 refine os (x_bin rfl za za b_lss) ?_
 refine o_done (se_seq ?_)
 refine s_cond za (fun g2 => ?_) (fun g2 => ?_)
 ·have p2 := g2; try simp only [dd] at p2
  refine s_skip (se_seq (s_seq (s_block (s_region hP hC (oM ?_)))))
  refine oM ?_
  refine oM ?_
  obtain ⟨idD, roD, cpD, rfl, oD, oD1, oD2⟩ := hrd.own ow
  have hi1 : i.toNat < l.length := by omega
  have hnx := encP_next (f := bytesB) hi1
  have hnl := congrArg List.length hnx
  have hl1 := hle (i.toNat + 1)
  rw [List.length_append] at hnl
  have hes : l[i.toNat].size <= 1000000000 := hel _ (List.getElem_mem hi1)
  refine os (x_index rfl za za u55 T.s9 ow ow) ?_
  refine os (x_load1 rfl za T.g9 ((l_nth ((oD.keep (hG.same _ ow) (hG.same _ ow)).whole) (by unfold strC; rw [List.length_map]; exact hi1)).trans (by unfold strC; rw [List.getElem_map]))) ?_
  refine o_callR (tab_missR zd (tab_hitR (bytes_c (s := l[i.toNat]) hes ow ow))) (wA_none rfl) rfl rfl rfl ze zd (fun v3 h3 hR3 => ?_)
  obtain ⟨t3, nx3, wz3, rfl, hf3, S3, ac3⟩ := hR3
  have qa3 := hf3.le
  have qb3 : nx3 <= nx1 + 62 := hf3.hi
  have qc3 := hf3.wlo
  have qd3 := hf3.whi
  have hF4 : Fr t nx wr _ _ _ (64 * i.toNat + 60 + 62) := Fr.trans hG hf3 (Nat.le_refl _)
  refine o_appB aA (cells_bv (acc_bv ac3) u23 T.s5) (wA_none rfl) rfl rfl rfl ze rfl rfl zr u23 T.i23 zd ow (fun x q => hf3.same x (by have := aA.bnd x q; omega)) ow ow (fun v5 t5 nx5 wz5 S5 hA5 => ?_)
  have qa5 := hA5.le
  have qb5 := hA5.hi
  have qc5 := hA5.wlo
  have qd5 := hA5.whi
  have ac5 := hA5.acc
  have hF6 : Fr t nx wr _ _ _ (64 * i.toNat + 60 + 62 + 1) := ABp.fr hA5 hF4 ow (fun x q => (aA.bnd x q).1)
  refine oA ?_
  refine o_done (se_block (se_seq (s_region hP hC (oM ?_))))
  refine os (x_bin rfl za (by rfl) b_add) ?_
  refine oA ?_
  refine o_done ?_
  refine se_loop ?_
  have hw1 : IntKind.i64.wrap (i + 1) = i + 1 := wr1 ow ow
  have e1 : (i + 1).toNat = i.toNat + 1 := by omega
  refine ⟨i + 1, ⟨v5, _, _, _, _, _, rfl, za, za, (by simp only [Tr.get_set, reduceIte, Nat.reduceEqDiff, Nat.reduceAdd, hw1, heb0, heb3, heb4, g2] <;> rfl), by omega, by omega, by rw [e1, encP_next hi1]; exact ac5, Fr.low hF6 (by rw [e1]; omega)⟩, by omega⟩
 ·have p2 := g2; try simp only [dd] at p2
  refine s_exit ?_
  refine se_seq_exit ?_
  refine se_loop_exit ?_
  refine se_block_eq (se_seq (s_seq (s_region hP hC (oM ?_))))
  refine oA ?_
  refine o_done (se_seq ?_)
  refine s_ret ?_
  refine ⟨.inr rfl, _, (by simp only [Tryz.results48, resA, Tr.get_set, reduceIte, Nat.reduceEqDiff, Nat.reduceAdd, heb0, heb3, heb4, g2] <;> rfl), fun l2 s2 hs2 hr2 => ?_⟩
  cases hs2
  obtain rfl : l2 = l := strC_inj (hrd.uniq hr2).2
  have hil : i.toNat = l2.length := by omega
  rw [hil] at hG
  rw [encP_all ow] at aA
  exact ⟨_, _, _, rfl, Fr.low hG ow, _, aA⟩
end Go.Proofs.YtfgmplbclpadbaaGreatDoor
namespace Go.Proofs.YtfgmplbclpadbaaGreatDoor
open Go.AM
set_option maxRecDepth 100000
set_option maxHeartbeats 1000000
set_option maxHeartbeats 8000000
theorem l_bysK {h : AH} {id off : Nat} {l : List Int} (hw : Whole h id (bys l)) (h1 : off < l.length) : loadC h id off 1 = some [.int .u8 (ith l off)] := by
 have := l_bys hw (i := off) ow ow
 rwa [Int.toNat_natCast, Nat.zero_add, Nat.mul_one] at this
theorem bys_inj {a b : List Int} (h : bys a = bys b) : a = b := by
 have := congrArg unints h
 rwa [unints_bys', unints_bys'] at this
def R_digs : List Value -> AH -> Value -> AH -> Prop := fun args h v h' => ∀ l n s, args = [s] -> LV h.t h.next 16 s n (bys l) -> BPost (encI n ++ l) (40 * n + 70) h.t h.next h.wr v h'
noncomputable def c_digs := cEx Tryz.prog 10 R_digs
theorem con_digs : Con Tryz.prog 10 c_digs := con_ex Tryz.func10 rfl
theorem digs_c {t : Tr AObj} {nx wr : Nat} {s : Value} {l : List Int} {n : Nat} (hrd : LV t nx 16 s n (bys l)) (hn : n <= 100000) (hN : nx + (40 * n + 70) + 100 <= BIG) (hwr : wr <= BIG) : ∃ v h', c_digs [s] ⟨t, nx, wr⟩ = some (v, h') /\ BPost (encI n ++ l) (40 * n + 70) t nx wr v h' := by
 have hP := Fits
 have hC : CallSound Tryz.prog (tabOf [(23, c_int)]) := tab_sound (tab_cons con_int tab_end)
 have hF0 : Fr t nx wr t nx wr 0 := Fr.refl
 have hin : inR (n : Int) := by unfold inR; omega
 have hen := encI_len hin
 have hll : l.length = n * 16 := by
  rcases hrd with ⟨q1, q2, _⟩ | ⟨_, q, _⟩
  ·rw [q1, bys_inj (b := []) q2]; rfl
  ·rw [bys_len] at q; exact q
 suffices key : SureK Tryz.prog ⟨t, nx, wr⟩ _ [] _ (EndR Tryz.prog _ (R_digs [s] ⟨t, nx, wr⟩)) by
  obtain ⟨v, h', q, c⟩ := sure_start (R := R_digs) (sz := 29) Tryz.func10 rfl rfl zo key
  exact ⟨v, h', q, c l n s rfl hrd⟩
 refine s_seq (s_region hP hC (oA ?_))
 refine o_done (se_seq (s_seq (s_region hP hC (oM ?_))))
 refine os (x_lenL hrd rfl rfl zv rfl u42) ?_
 refine o_callR (tab_hitR (int_c hin ow ow)) (wA_none rfl) rfl rfl rfl zv zd (fun v1 h1 hR1 => ?_)
 obtain ⟨t1, nx1, wz1, rfl, hf1, S1, ac1⟩ := hR1
 have qa1 := hf1.le
 have qb1 : nx1 <= nx + 60 := hf1.hi
 have qc1 := hf1.wlo
 have qd1 := hf1.whi
 have hF2 : Fr t nx wr _ _ _ (0 + 60) := Fr.trans hF0 hf1 (Nat.le_refl _)
 refine oA ?_
 refine o_done (se_seq (s_seq (s_seq (s_region hP hC (oA ?_)))))
 refine o_done (se_seq (s_block ?_))
 refine s_loop (α := Int) (fun i s' => ∃ v e t1 nx1 wq1 S, s' = ⟨e, 29, ⟨t1, nx1, wq1⟩⟩ /\ e.get 0 = some (s) /\ e.get 3 = some (v) /\ e.get 4 = some (.int .i64 i) /\ 0 <= i /\ i <= n /\ AccP t1 nx nx1 S 1 v (encI n ++ l.take (16 * i).toNat).length (bys (encI n ++ l.take (16 * i).toNat)) /\ Fr t nx wr t1 nx1 wq1 (40 * i.toNat + 60)) (fun i => (n - i).toNat) 0 ⟨_, _, _, _, _, _, rfl, (by (repeat (first | rw [gn ow] | rw [hf1.same _ ow])) <;> first | rfl | assumption | (rw [gp ow]; done) | (rw [gp ow]; rfl)), (by (repeat (first | rw [gn ow] | rw [hf1.same _ ow])) <;> first | rfl | assumption | (rw [gp ow]; done) | (rw [gp ow]; rfl)), (by (repeat (first | rw [gn ow] | rw [hf1.same _ ow])) <;> first | rfl | assumption | (rw [gp ow]; done) | (rw [gp ow]; rfl)), by omega, by omega, by rw [Int.mul_zero, Int.toNat_zero, List.take_zero, List.append_nil]; exact ac1, Fr.low hF2 ow⟩ ?_
 rintro i s' ⟨v, e, t1, nx1, wq1, S, rfl, heb0, heb3, heb4, i0, i1, aA, hG⟩
 have g1 := hG.le
 have g2 := hG.hi
 have g3 := hG.wlo
 have g4 := hG.whi
 refine s_seq (s_seq (s_region hP hC (oM ?_)))
 refine oM ?_
 refine os (x_lenL hrd rfl rfl ze rfl u42) ?_
 refine os (x_bin rfl za za b_lss) ?_
 refine o_done (se_seq ?_)
 refine s_cond za (fun g2 => ?_) (fun g2 => ?_)
 ·have p2 := g2; try simp only [dd] at p2
  refine s_skip (se_seq (s_seq (s_block (s_seq (s_region hP hC (oA ?_))))))
  refine o_done (se_seq (s_block ?_))
  have hil : i < n := by omega
  refine s_loop (α := Int) (fun j s' => ∃ v e t1 nx1 wq1 S, s' = ⟨e, 29, ⟨t1, nx1, wq1⟩⟩ /\ e.get 0 = some (s) /\ e.get 3 = some (v) /\ e.get 4 = some (.int .i64 i) /\ e.get 5 = some (.int .i64 j) /\ 0 <= j /\ j <= 16 /\ AccP t1 nx nx1 S 1 v (encI n ++ l.take ((16 * i).toNat + j.toNat)).length (bys (encI n ++ l.take ((16 * i).toNat + j.toNat))) /\ Fr t nx wr t1 nx1 wq1 (40 * i.toNat + 2 * j.toNat + 60)) (fun j => (16 - j).toNat) 0 ⟨_, _, _, _, _, _, rfl, za, za, za, za, by omega, by omega, aA, Fr.low hG ow⟩ ?_
  clear aA hG g1 g2 g3 g4 heb0 heb3 heb4
  rintro j s' ⟨v, e, t1, nx1, wq1, S, rfl, hec0, hec3, hec4, hec5, j0, j1, aB, hI⟩
  have g1 := hI.le
  have g2 := hI.hi
  have g3 := hI.wlo
  have g4 := hI.whi
  refine s_seq (s_seq (s_region hP hC (oM ?_)))
  refine os (x_bin rfl za (by rfl) b_lss) ?_
  refine o_done (se_seq ?_)
  refine s_cond za (fun g4 => ?_) (fun g4 => ?_)
  ·have p4 := g4; try simp only [dd] at p4
   refine s_skip (se_seq (s_seq (s_block (s_region hP hC (oM ?_)))))
   refine oM ?_
   refine oM ?_
   refine oM ?_
   obtain ⟨idD, roD, cpD, rfl, oD, oD1, oD2⟩ := hrd.own ow
   have hk : (16 * i).toNat + j.toNat < l.length := by omega
   have hke : ith l ((16 * i).toNat + j.toNat : Nat) = l[(16 * i).toNat + j.toNat] := by rw [ith_eq ow ow]; rfl
   have hko : 0 + i.toNat * 16 + j.toNat * 1 = (16 * i).toNat + j.toNat := by omega
   have hlt : (encI n ++ l.take ((16 * i).toNat + j.toNat)).length <= 9 + 1600000 := by rw [List.length_append, List.length_take]; omega
   refine os (x_index rfl za za u42 T.s25 ow ow) ?_
   refine os (x_indexA rfl za za u25 T.s5 ow ow) ?_
   refine os (x_load1 rfl za T.g5 (by rw [hko]; exact l_bysK ((oD.keep (hI.same _ ow) (hI.same _ ow)).whole) hk)) ?_
   refine os (y_bsliceV rfl za rfl u23 T.s5 T.z5 rfl rfl) ?_
   refine o_appB aB (cells_row (cs := bys [ith l ((16 * i).toNat + j.toNat : Nat)]) u23 T.s5 (l_all (whole_row (by rw [gp rfl] <;> rfl) rfl) rfl)) (wA_none rfl) rfl rfl rfl ze rfl rfl zr u23 T.i23 zd ow (fun x q => by have := aB.bnd x q; rw [gn ow]) ow (by rw [show ([ith l _] : List Int).length = 1 from rfl]; omega) (fun v3 t3 nx3 wz3 S3 hA3 => ?_)
   have qa3 := hA3.le
   have qb3 := hA3.hi
   have qc3 := hA3.wlo
   have qd3 := hA3.whi
   have ac3 := hA3.acc
   have hF4 : Fr t nx wr _ _ _ (40 * i.toNat + 2 * j.toNat + 60 + 1 + 1) := ABp.fr hA3 (Fr.alloc hI) ow (fun x q => (aB.bnd x q).1)
   refine oA ?_
   refine o_done (se_block (se_seq (s_region hP hC (oM ?_))))
   refine os (x_bin rfl za (by rfl) b_add) ?_
   refine oA ?_
   refine o_done ?_
   refine se_loop ?_
   have hw1 : IntKind.i64.wrap (j + 1) = j + 1 := wr1 ow ow
   have e1 : (16 * i).toNat + (j + 1).toNat = (16 * i).toNat + j.toNat + 1 := by omega
   refine ⟨j + 1, ⟨_, _, _, _, _, _, rfl, za, za, za, (by simp only [Tr.get_set, reduceIte, Nat.reduceEqDiff, Nat.reduceAdd, hw1, hec0, hec3, hec4, hec5, g4] <;> rfl), by omega, by omega, by rw [e1, List.take_succ_eq_append_getElem hk, <-List.append_assoc, <-hke]; exact ac3, Fr.low hF4 ow⟩, by omega⟩
  ·have p4 := g4; try simp only [dd] at p4
   refine s_exit ?_
   refine se_seq_exit ?_
   refine se_loop_exit ?_
   refine se_block_eq (se_block (se_seq (s_region hP hC (oM ?_))))
   refine os (x_bin rfl za (by rfl) b_add) ?_
   refine oA ?_
   refine o_done ?_
   refine se_loop ?_
   have hw1 : IntKind.i64.wrap (i + 1) = i + 1 := wr1 ow ow
   have e1 : (16 * i).toNat + j.toNat = (16 * (i + 1)).toNat := by omega
   rw [e1] at aB
   refine ⟨i + 1, ⟨_, _, _, _, _, _, rfl, za, za, (by simp only [Tr.get_set, reduceIte, Nat.reduceEqDiff, Nat.reduceAdd, hw1, hec0, hec3, hec4, hec5, g4] <;> rfl), by omega, by omega, aB, Fr.low hI ow⟩, by omega⟩
 ·have p2 := g2; try simp only [dd] at p2
  refine s_exit ?_
  refine se_seq_exit ?_
  refine se_loop_exit ?_
  refine se_block_eq (se_seq (s_seq (s_region hP hC (oM ?_))))
  refine oA ?_
  refine o_done (se_seq ?_)
  refine s_ret ?_
  refine ⟨.inr rfl, _, (by simp only [Tryz.results10, resA, Tr.get_set, reduceIte, Nat.reduceEqDiff, Nat.reduceAdd, heb0, heb3, heb4, g2] <;> rfl), fun l2 n2 s2 hs2 hr2 => ?_⟩
  cases hs2
  have hq := hrd.uniq hr2
  obtain rfl : n2 = n := hq.1
  obtain rfl : l2 = l := bys_inj hq.2
  have hil : i.toNat = n2 := by omega
  have hi6 : (16 * i).toNat = l2.length := by omega
  rw [hil] at hG
  rw [hi6, List.take_length] at aA
  exact ⟨_, _, _, rfl, Fr.low hG ow, _, aA⟩
end Go.Proofs.YtfgmplbclpadbaaGreatDoor
namespace Go.Proofs.YtfgmplbclpadbaaGreatDoor
open Go Go.AM
structure Ans where
 w : Int
 q : Int
 k : Int
 f : Int
 sk : Int
 sd : Int
 o : Int
 si : Int
 st : Int
 al : Int
 wa : Int
 pd : List Int
 rt : List Int
 ts : ByteArray
 wh : ByteArray
 sg : ByteArray
def Ans.C (a : Ans) : List Value := [.int .i64 a.w, .int .i64 a.q] ++ (bys a.pd ++ ([.string a.ts, .int .i64 a.k, .int .i64 a.f, .int .i64 a.sk, .int .i64 a.sd, .int .i64 a.o, .string a.wh, .int .i64 a.si, .int .i64 a.st, .int .i64 a.al, .int .i64 a.wa] ++ (bys a.rt ++ [.string a.sg])))
structure Ans.Ok (a : Ans) : Prop where
 nums : ∀ x ∈ [a.w, a.q, a.k, a.f, a.sk, a.sd, a.o, a.si, a.st, a.al, a.wa], inR x
 pl : a.pd.length = 16
 rl : a.rt.length = 16
 pb : Byt a.pd
 rb : Byt a.rt
 tl : a.ts.size <= 1500000
 hl : a.wh.size <= 1500000
 gl : a.sg.size <= 1500000
theorem Ans.C_len {a : Ans} (h : a.Ok) : a.C.length = 46 := by
 unfold Ans.C
 simp only [List.length_append, List.length_cons, List.length_nil, bys_len, h.pl, h.rl]
theorem Ans.C_cf {a : Ans} (h : a.Ok) : cf T.K35 a.C = true := by
 have h1 := cf_bys a.pd
 have h2 := cf_bys a.rt
 rw [h.pl] at h1
 rw [h.rl] at h2
 exact cf_append (ks := [.int .i64, .int .i64]) rfl (cf_append h1 (cf_append (ks := [.str, .int .i64, .int .i64, .int .i64, .int .i64, .int .i64, .str, .int .i64, .int .i64, .int .i64, .int .i64]) rfl (cf_append h2 (ks' := [.str]) rfl)))
theorem Ans.C_inj {a b : Ans} (ha : a.Ok) (hb : b.Ok) (h : a.C = b.C) : a = b := by
 obtain ⟨w, q, k, f, sk, sd, o, si, st, al, wa, pd, rt, ts, wh, sg⟩ := a
 obtain ⟨w', q', k', f', sk', sd', o', si', st', al', wa', pd', rt', ts', wh', sg'⟩ := b
 have e1 := ha.pl; have e2 := hb.pl; have e3 := ha.rl; have e4 := hb.rl
 simp only at e1 e2 e3 e4
 unfold Ans.C at h
 simp only [List.cons_append, List.nil_append, List.cons.injEq, Value.int.injEq, true_and] at h
 obtain ⟨rfl, rfl, h⟩ := h
 have h1 := List.append_inj h (by rw [bys_len, bys_len]; omega)
 have h2 := bys_inj h1.1
 have h3 := h1.2
 simp only [List.cons.injEq, Value.int.injEq, Value.string.injEq, true_and] at h3
 obtain ⟨rfl, rfl, rfl, rfl, rfl, rfl, rfl, rfl, rfl, rfl, rfl, h3⟩ := h3
 have h4 := List.append_inj h3 (by rw [bys_len, bys_len]; omega)
 have h5 := bys_inj h4.1
 have h6 := h4.2
 simp only [List.cons.injEq, Value.string.injEq, and_true] at h6
 subst h2; subst h5; subst h6
 rfl
def msg1 (a : Ans) : List Int := intsB [a.w, a.q]
def msg2 (a : Ans) : List Int := msg1 a ++ (encI (1 : Nat) ++ a.pd)
def msg3 (a : Ans) : List Int := msg2 a ++ strsB [a.ts]
def msg4 (a : Ans) : List Int := msg3 a ++ intsB [a.k, a.f, a.sk, a.sd]
def msg5 (a : Ans) : List Int := msg4 a ++ intsB [a.o, a.si, a.st, a.al, a.wa]
def msg6 (a : Ans) : List Int := msg5 a ++ strsB [a.wh]
def msgB (a : Ans) : List Int := msg6 a ++ (encI (1 : Nat) ++ a.rt)
def encB (a : Ans) : List Int := msgB a ++ bytesB a.sg
theorem flat_le {α : Type} {f : α -> List Int} {b : Nat} : ∀ (l : List α), (∀ x ∈ l, (f x).length <= b) -> (l.flatMap f).length <= b * l.length
 | [], _ => Nat.zero_le _
 | x :: l, h => by
  have := flat_le l fun y hy => h y (List.mem_cons_of_mem _ hy)
  have := h x (List.mem_cons_self ..)
  rw [List.flatMap_cons, List.length_append, List.length_cons, Nat.mul_add]
  omega
theorem intsB_hi {l : List Int} (h : ∀ x ∈ l, inR x) (hl : l.length <= 1000) : 1 <= (intsB l).length /\ (intsB l).length <= 9 + 9 * l.length /\ Byt (intsB l) := by
 have h1 := flat_le (f := encI) (b := 9) l fun x hx => (encI_len (h x hx)).2
 have hin : inR (l.length : Int) := by unfold inR; omega
 have h2 := encI_len hin
 refine ⟨?_, ?_, encL_byt hin fun x hx => enc_byt (h x hx)⟩ <;>
 ·unfold intsB encL; rw [List.length_append]; omega
theorem bytesB_hi {s : ByteArray} (h : s.size <= 1500000) : 1 <= (bytesB s).length /\ (bytesB s).length <= 9 + s.size /\ Byt (bytesB s) := by
 have hin : inR (s.size : Int) := by unfold inR; omega
 have h2 := encI_len hin
 have := sB_len s
 refine ⟨?_, ?_, byt_app (enc_byt hin) (sB_byt s)⟩ <;>
 ·unfold bytesB; rw [List.length_append]; omega
theorem strsB_hi {s : ByteArray} (h : s.size <= 1500000) : 1 <= (strsB [s]).length /\ (strsB [s]).length <= 18 + s.size /\ Byt (strsB [s]) := by
 have h1 := bytesB_hi h
 have hin : inR (([s] : List ByteArray).length : Int) := by show inR ((1 : Nat) : Int); decide
 have h2 := encI_len hin
 refine ⟨?_, ?_, encL_byt hin fun x hx => by rw [List.mem_singleton.1 hx]; exact h1.2.2⟩ <;>
 ·unfold strsB encL; rw [List.length_append, List.flatMap_cons, List.flatMap_nil, List.append_nil]; omega
theorem encI1_len : 1 <= (encI (1 : Nat)).length /\ (encI (1 : Nat)).length <= 9 := encI_len (by decide)
structure Ans.Lens (a : Ans) : Prop where
 l1 : 1 <= (msg1 a).length /\ (msg1 a).length <= 27
 l2 : (msg2 a).length = (msg1 a).length + (encI (1 : Nat)).length + 16
 l3 : (msg3 a).length <= (msg2 a).length + 1500018 /\ (msg2 a).length <= (msg3 a).length
 l4 : (msg4 a).length <= (msg3 a).length + 45 /\ (msg3 a).length <= (msg4 a).length
 l5 : (msg5 a).length <= (msg4 a).length + 54 /\ (msg4 a).length <= (msg5 a).length
 l6 : (msg6 a).length <= (msg5 a).length + 1500018 /\ (msg5 a).length <= (msg6 a).length
 l7 : (msgB a).length = (msg6 a).length + (encI (1 : Nat)).length + 16
 l8 : (encB a).length <= (msgB a).length + 1500009 /\ (msgB a).length < (encB a).length
 b8 : Byt (encB a)
theorem Ans.lens {a : Ans} (h : a.Ok) : a.Lens := by
 have hn := h.nums
 have i1 := intsB_hi (l := [a.w, a.q]) (fun x hx => by
  simp only [List.mem_cons, List.not_mem_nil, or_false] at hx
  rcases hx with rfl | rfl <;> exact hn _ (by simp only [List.mem_cons, true_or, or_true])) (by simp only [List.length_cons, List.length_nil]; omega)
 have i4 := intsB_hi (l := [a.k, a.f, a.sk, a.sd]) (fun x hx => by
  simp only [List.mem_cons, List.not_mem_nil, or_false] at hx
  rcases hx with rfl | rfl | rfl | rfl <;> exact hn _ (by simp only [List.mem_cons, true_or, or_true])) (by simp only [List.length_cons, List.length_nil]; omega)
 have i5 := intsB_hi (l := [a.o, a.si, a.st, a.al, a.wa]) (fun x hx => by
  simp only [List.mem_cons, List.not_mem_nil, or_false] at hx
  rcases hx with rfl | rfl | rfl | rfl | rfl <;> exact hn _ (by simp only [List.mem_cons, true_or, or_true])) (by simp only [List.length_cons, List.length_nil]; omega)
 have s3 := strsB_hi h.tl
 have s6 := strsB_hi h.hl
 have s8 := bytesB_hi h.gl
 have e1 : Byt (encI (1 : Nat)) := enc_byt (by decide)
 have pl := h.pl; have rl := h.rl; have tl := h.tl; have hl := h.hl; have gl := h.gl
 simp only [List.length_cons, List.length_nil] at i1 i4 i5
 have hb2 : Byt (msg2 a) := byt_app i1.2.2 (byt_app e1 h.pb)
 have hb6 : Byt (msg6 a) := byt_app (byt_app (byt_app (byt_app hb2 s3.2.2) i4.2.2) i5.2.2) s6.2.2
 refine ⟨⟨i1.1, by have := i1.2.1; unfold msg1; omega⟩, ?_, ?_, ?_, ?_, ?_, ?_, ?_, byt_app (byt_app hb6 (byt_app e1 h.rb)) s8.2.2⟩
 ·unfold msg2; rw [List.length_append, List.length_append]; omega
 ·unfold msg3; rw [List.length_append]; omega
 ·unfold msg4; rw [List.length_append]; omega
 ·unfold msg5; rw [List.length_append]; omega
 ·unfold msg6; rw [List.length_append]; omega
 ·unfold msgB; rw [List.length_append, List.length_append]; omega
 ·unfold encB; rw [List.length_append]; omega
theorem Fr.min {t t' : Tr AObj} {nx nx' wr wr' k : Nat} (h : Fr t nx BIG t' nx' wr' k) (hB : nx <= BIG) : Fr t nx wr t' nx' (Min.min wr wr') k := by
 have a := h.le; have b := h.hi; have c := h.wlo
 exact ⟨a, b, by omega, by omega, h.same⟩
theorem ABp.frD {t00 t t' : Tr AObj} {n00 w00 nx wr nx' wr' n0 k : Nat} {S S' : Nat -> Prop} {w v' : Value} {L M : List Int} (h : ABp t nx BIG n0 S w L M v' t' nx' wr' S') (hF : Fr t00 n00 w00 t nx wr k) (hB : n0 <= BIG) (hn : n00 <= n0) (hS : ∀ x, S x -> n0 <= x) : Fr t00 n00 w00 t' nx' (Min.min wr wr') (k + 1) := by
 have a := h.le; have b := h.hi; have c := h.wlo
 have a1 := hF.le; have b1 := hF.hi; have c1 := hF.wlo; have d1 := hF.whi
 exact ⟨by omega, by omega, by omega, by omega, fun i hi => (h.same i (fun q => by have := hS i q; omega) (by omega)).trans (hF.same i hi)⟩
theorem Fr.wr {t00 t : Tr AObj} {n00 w00 nx w1 w2 k : Nat} (hF : Fr t00 n00 w00 t nx w1 k) (h1 : Min.min w00 n00 <= w2) (h2 : w2 <= w00) : Fr t00 n00 w00 t nx w2 k := ⟨hF.le, hF.hi, h1, h2, hF.same⟩
theorem my_ldR {B : Nat} {Y : Option Nat} {M : List Nat} {n : Nat} {acc : List Inf} {e : Tr Value} {t : Tr AObj} {nx id low n0 : Nat} {op : Op} {d : List Value} {ro : Bool} (h : MkY B Y M n acc) (h2 : readId e op = some id) (hg : t.get id = some (.row d id low ro n0)) (h3 : nx <= BIG) (hi : id < nx) (hb : id < B) (hM : M.getD n 1 = 0 := by rfl) (h1 : floats op = true := by rfl) : MkY B Y M (n + 1) (acc ++ [infOf e t nx op t nx BIG]) := by
 have hr : rootOf ⟨t, nx, 0⟩ id = id := root_row hg
 exact my_ld h h2 h3 hi (by rw [hr]; exact hi) hb (by rw [hr]; exact hb) hM h1
theorem bys_refl (l : List Int) : ∀ v ∈ bys l, eqV 20 v v = true := fun v hv => by
 obtain ⟨n, _, rfl⟩ := List.mem_map.1 hv
 exact eqV_int
def Ans.X (a : Ans) : List Value := bys a.pd ++ [.string a.ts, .int .i64 a.k, .int .i64 a.f, .int .i64 a.sk, .int .i64 a.sd]
def Ans.R (a : Ans) : List Value := [.int .i64 a.o, .string a.wh, .int .i64 a.si, .int .i64 a.st, .int .i64 a.al, .int .i64 a.wa] ++ bys a.rt
theorem Ans.C_eq (a : Ans) : a.C = [.int .i64 a.w, .int .i64 a.q] ++ (a.X ++ (a.R ++ [.string a.sg])) := by
 unfold Ans.C Ans.X Ans.R
 simp only [List.append_assoc, List.cons_append, List.nil_append]
theorem Ans.X_len {a : Ans} (h : a.Ok) : a.X.length = 21 := by
 unfold Ans.X; rw [List.length_append, bys_len, h.pl]; rfl
theorem Ans.R_len {a : Ans} (h : a.Ok) : a.R.length = 22 := by
 unfold Ans.R; rw [List.length_append, bys_len, h.rl]; rfl
section
variable {a : Ans} {h : AH} {id : Nat}
theorem Ans.l_X (ok : a.Ok) (hw : Whole h id a.C) : loadC h id 2 21 = some a.X := by
 rw [l_whole hw _ _ (by rw [Ans.C_len ok]; decide), Ans.C_eq, List.drop_left' (by rfl), List.take_left' (Ans.X_len ok)]
theorem Ans.l_R (ok : a.Ok) (hw : Whole h id a.C) : loadC h id 23 22 = some a.R := by
 rw [l_whole hw _ _ (by rw [Ans.C_len ok]; decide), Ans.C_eq, <-List.append_assoc, List.drop_left' (by rw [List.length_append, Ans.X_len ok]; rfl), List.take_left' (Ans.R_len ok)]
theorem Ans.l_sg (ok : a.Ok) (hw : Whole h id a.C) : loadC h id 45 1 = some [.string a.sg] := by
 rw [l_whole hw _ _ (by rw [Ans.C_len ok]; decide), Ans.C_eq, <-List.append_assoc, <-List.append_assoc, List.drop_left' (by rw [List.length_append, List.length_append, Ans.X_len ok, Ans.R_len ok]; rfl)]
 rfl
theorem Ans.l_pd (ok : a.Ok) (hw : Whole h id a.X) : loadC h id 0 16 = some (bys a.pd) := by
 rw [l_whole hw _ _ (by rw [Ans.X_len ok]; decide), List.drop_zero]
 unfold Ans.X
 rw [List.take_left' (by rw [bys_len, ok.pl])]
theorem Ans.l_x (ok : a.Ok) (hw : Whole h id a.X) (j : Nat) (v : Value) (hj : [Value.string a.ts, .int .i64 a.k, .int .i64 a.f, .int .i64 a.sk, .int .i64 a.sd][j]? = some v) : loadC h id (16 + j) 1 = some [v] := by
 have hl : j < 5 := by have := List.getElem?_eq_some_iff.1 hj; exact this.1
 rw [l_whole hw _ _ (by rw [Ans.X_len ok]; omega)]
 unfold Ans.X
 rw [<-List.drop_drop, List.drop_left' (by rw [bys_len, ok.pl])]
 match j, hl, hj with
 | 0, _, hj => cases hj; rfl
 | 1, _, hj => cases hj; rfl
 | 2, _, hj => cases hj; rfl
 | 3, _, hj => cases hj; rfl
 | 4, _, hj => cases hj; rfl
theorem Ans.l_rt (ok : a.Ok) (hw : Whole h id a.R) : loadC h id 6 16 = some (bys a.rt) := by
 rw [l_whole hw _ _ (by rw [Ans.R_len ok]; decide)]
 unfold Ans.R
 rw [List.drop_left' (by rfl), List.take_of_length_le (by rw [bys_len, ok.rl]; decide)]
theorem Ans.l_r (ok : a.Ok) (hw : Whole h id a.R) (j : Nat) (v : Value) (hl : j < 6) (hj : [Value.int .i64 a.o, .string a.wh, .int .i64 a.si, .int .i64 a.st, .int .i64 a.al, .int .i64 a.wa][j]? = some v) : loadC h id j 1 = some [v] := by
 rw [l_whole hw _ _ (by rw [Ans.R_len ok]; omega)]
 unfold Ans.R
 match j, hl, hj with
 | 0, _, hj => cases hj; rfl
 | 1, _, hj => cases hj; rfl
 | 2, _, hj => cases hj; rfl
 | 3, _, hj => cases hj; rfl
 | 4, _, hj => cases hj; rfl
 | 5, _, hj => cases hj; rfl
end
theorem b_remS {P : Program} {t : TypeId} {xo yo : Operand} {a b : Int} (h : 0 <= a) (hb : 0 < b) : binV P .rem t xo yo (.int .i64 a) (.int .i64 b) = some (.int .i64 (a % b)) := by
 rw [b_rem (by omega), Int.tmod_eq_emod_of_nonneg h]
theorem u8_rng (x : Int) : 0 <= IntKind.u8.wrap x /\ IntKind.u8.wrap x < 256 := by
 unfold IntKind.wrap
 simp only [IntKind.signed, Bool.false_and, Bool.false_eq_true, if_false, IntKind.bits]
 show 0 <= x % 256 /\ x % 256 < 256
 omega
theorem pick3 {a b c : ByteArray} {k : Nat} (h : k < [Value.string a, .string b, .string c].length) (ha : a.size <= 1000) (hb : b.size <= 1000) (hc : c.size <= 1000) : ∃ s, [Value.string a, .string b, .string c][k] = .string s /\ s.size <= 1000 := by
 match k, h with
 | 0, _ => exact ⟨a, rfl, ha⟩
 | 1, _ => exact ⟨b, rfl, hb⟩
 | 2, _ => exact ⟨c, rfl, hc⟩
theorem pickI {l : List Int} {i : Int} (h : ∀ x ∈ l, inR x) (h0 : 0 <= i) (h1 : i < l.length) : inR (ith l i) := h _ (ith_mem h0 h1)
end Go.Proofs.YtfgmplbclpadbaaGreatDoor
namespace Go.Proofs.YtfgmplbclpadbaaGreatDoor
open Go Go.AM
theorem num_digs : ∀ (n m : Nat), m <= n -> num (digs m).reverse = (m : Int)
 | n, 0, _ => by rw [digs_0]; rfl
 | 0, m + 1, h => by omega
 | n + 1, m + 1, h => by
  rw [digs_pos (by omega), List.reverse_cons, num_snoc, num_digs n _ (by omega)]
  omega
theorem getI_enc {n : Int} (hn : inR n) (r : List Int) : getI (encI n ++ r) = (n, ((encI n).length : Int), 0) := by
 have hk := dg_len hn
 have hd : num (dg n).reverse = mag n := by
  have h1 := num_digs _ (mag n).toNat (Nat.le_refl _)
  have h2 := (mag_rng hn).1
  unfold dg
  rw [h1]; omega
 have hm := mag_rng hn
 have hlen : ((encI n).length : Int) = (dg n).length + 1 := by rw [enc_eq, List.length_cons, List.length_map, List.length_reverse]; omega
 have hh : (dg n).reverse.head? ≠ some 0 := by
  rw [List.head?_reverse]
  exact digs_last _ _ (Nat.le_refl _)
 have key : ∀ f : Int, f = (if n < 0 then 255 else 0) -> (((dg n).reverse.map (sgn n)).map (flipB f)) = (dg n).reverse := by
  intro f hf
  have : ∀ d, sgn n d = flipB f d := by
   intro d
   unfold sgn flipB
   subst hf
   by_cases h : n < 0
   ·simp only [if_pos h]; rfl
   ·simp only [if_neg h]; rfl
  rw [List.map_congr_left (fun d _ => this d), map_flip]
 have hf : (if hd1 n < 128 then (255 : Int) else 0) = (if n < 0 then 255 else 0) := by
  unfold hd1
  by_cases h : n < 0
  ·simp only [if_pos h]; rw [if_pos (by omega)]
  ·simp only [if_neg h]; rw [if_neg (by omega)]
 have hlt : hd1 n < 128 ↔ n < 0 := by
  unfold hd1
  by_cases h : n < 0
  ·simp only [if_pos h]; omega
  ·simp only [if_neg h]; omega
 have hfl : flipB (if n < 0 then 255 else 0) (hd1 n) - 128 = ((dg n).length : Int) := by
  unfold flipB hd1
  by_cases h : n < 0
  ·simp only [if_pos h]; rw [if_neg (by decide)]; omega
  ·simp only [if_neg h]; rw [if_pos trivial]; omega
 have hrng : ¬ (hd1 n < 119 \/ 136 < hd1 n) := by
  unfold hd1
  split <;> omega
 rw [hlen, enc_eq, List.cons_append]
 unfold getI
 simp only
 have hts : (((dg n).reverse.map (sgn n)) ++ r).take ((dg n).length : Int).toNat = (dg n).reverse.map (sgn n) := by
  rw [Int.toNat_natCast, List.take_left' (by rw [List.length_map, List.length_reverse])]
 rw [if_neg hrng, hf, hfl, hts, key _ rfl, hd]
 have hlen2 : ¬ ((((dg n).reverse.map (sgn n)) ++ r).length : Int) < ((dg n).length : Int) := by
  rw [List.length_append, List.length_map, List.length_reverse]; omega
 rw [if_neg hlen2, if_neg (fun q => q.elim hh (fun h => by omega))]
 by_cases h : n < 0
 ·rw [if_pos (hlt.2 h)]
  have : -1 - mag n = n := by unfold mag; rw [if_pos h]; omega
  rw [this]
 ·rw [if_neg (fun q => h (hlt.1 q))]
  have : mag n = n := by unfold mag; rw [if_neg h]
  rw [this]
theorem cntE_enc {n s : Int} (hn : inR n) (h0 : 0 <= n) (hs : 0 < s) {r : List Int} (h : n * s <= r.length) : cntE (encI n ++ r) s = 0 := by
 have e := getI_enc hn r
 refine cnt_ok (by rw [e]) (by rw [e]; exact h0) ?_
 rw [e]
 refine mul_ge hs ?_
 rw [List.length_append]
 show n * s <= _
 simp only
 omega
theorem rdL_enc {α : Type} {rd : Rdr} {f : α -> List Int} {g : α -> Value} {l r : List Int} : ∀ (L : List α) (a : Int) (acc : List Value), 0 <= a -> l.drop a.toNat = L.flatMap f ++ r -> (∀ x ∈ L, ∀ r, rd (f x ++ r) = (g x, ((f x).length : Int), 0)) -> rdL rd l L.length a acc = (acc ++ L.map g, a + (L.flatMap f).length, 0)
 | [], a, acc, h0, hl, hf => by
  simp only [List.length_nil, rdL, List.map_nil, List.append_nil, List.flatMap_nil]
  rw [show a + ((0 : Nat) : Int) = a by omega]
 | x :: L, a, acc, h0, hl, hf => by
  have h1 := hf x (List.mem_cons_self ..) (L.flatMap f ++ r)
  rw [List.flatMap_cons, List.append_assoc] at hl
  rw [List.length_cons, rdL, hl, h1, if_pos rfl]
  simp only
  rw [rdL_enc L _ _ (by omega) (by
   rw [show (a + ((f x).length : Int)).toNat = a.toNat + (f x).length by omega, <-List.drop_drop, hl, List.drop_left' rfl]) fun y hy => hf y (List.mem_cons_of_mem _ hy)]
  rw [List.flatMap_cons, List.length_append, List.append_assoc, List.map_cons, List.singleton_append]
  congr 2
  omega
theorem getL_enc {α : Type} {rd : Rdr} {f : α -> List Int} {g : α -> Value} (L : List α) (r : List Int) (hL : inR (L.length : Int)) (h1 : ∀ x ∈ L, 1 <= (f x).length) (hf : ∀ x ∈ L, ∀ r, rd (f x ++ r) = (g x, ((f x).length : Int), 0)) : getL rd (encL f L ++ r) = (L.map g, ((encL f L).length : Int), 0) := by
 have h2 := flat_ge L h1
 have e : encL f L ++ r = encI L.length ++ (L.flatMap f ++ r) := by unfold encL; rw [List.append_assoc]
 have hg := getI_enc hL (L.flatMap f ++ r)
 have hc : cntE (encI L.length ++ (L.flatMap f ++ r)) 1 = 0 := cntE_enc hL (by omega) (by decide) (by rw [List.length_append]; omega)
 unfold getL
 rw [e, if_pos hc, hg]
 simp only
 rw [Int.toNat_natCast, rdL_enc (r := r) L _ _ (by omega) (by rw [Int.toNat_natCast, List.drop_left' rfl]) hf]
 unfold encL
 rw [List.length_append, List.nil_append]
 congr 2
theorem strB_sB (s : ByteArray) : strB (sB s) = s := by
 obtain ⟨⟨l⟩⟩ := s
 unfold strB sB
 rw [List.map_map]
 congr 2
 refine Eq.trans (List.map_congr_left fun c _ => ?_) (List.map_id l)
 show UInt8.ofNat ((c.toNat : Int)).toNat = c
 rw [Int.toNat_natCast]
 exact UInt8.ofNat_toNat
theorem rdS_enc {s : ByteArray} (h : inR (s.size : Int)) (r : List Int) : rdS (bytesB s ++ r) = (.string s, ((bytesB s).length : Int), 0) := by
 have e : bytesB s ++ r = encI s.size ++ (sB s ++ r) := by unfold bytesB; rw [List.append_assoc]
 have hg := getI_enc h (sB s ++ r)
 have hl := sB_len s
 have hc : cntE (encI s.size ++ (sB s ++ r)) 1 = 0 := cntE_enc h (by omega) (by decide) (by rw [List.length_append]; omega)
 unfold rdS gbS gbN
 rw [e, hc, if_pos rfl, if_pos rfl, hg]
 simp only
 rw [Int.toNat_natCast, Int.toNat_natCast, List.drop_left' rfl, List.take_left' hl, strB_sB]
 unfold bytesB
 rw [List.length_append, hl]
 congr 2
theorem rdI_enc {n : Int} (h : inR n) (r : List Int) : rdI (encI n ++ r) = (.int .i64 n, ((encI n).length : Int), 0) := by
 unfold rdI
 rw [getI_enc h]
section
variable {r : List Int}
theorem p_ints {ns : List Int} (h : ∀ x ∈ ns, inR x) (hl : ns.length <= 1000) : getL rdI (intsB ns ++ r) = (ints ns, ((intsB ns).length : Int), 0) :=
 getL_enc ns r (by unfold inR; omega) (fun x hx => (encI_len (h x hx)).1) fun x hx r => rdI_enc (h x hx) r
theorem p_strs {s : ByteArray} (h : s.size <= 2000000) : getL rdS (strsB [s] ++ r) = ([.string s], ((strsB [s]).length : Int), 0) := by
 have hin : inR (s.size : Int) := by unfold inR; omega
 refine getL_enc (f := bytesB) (g := .string) [s] r (by show inR ((1 : Nat) : Int); decide) (fun x hx => ?_) fun x hx r => ?_
 ·rw [List.mem_singleton.1 hx]
  unfold bytesB
  rw [List.length_append]
  have := (encI_len hin).1
  omega
 ·rw [List.mem_singleton.1 hx]; exact rdS_enc hin r
theorem p_dig {d : List Int} (h : d.length = 16) : digN (encI (1 : Nat) ++ d ++ r) = ((encI (1 : Nat) ++ d).length : Int) /\ digE (encI (1 : Nat) ++ d ++ r) = 0 /\ digC (encI (1 : Nat) ++ d ++ r) = bys d := by
 have h1 : inR ((1 : Nat) : Int) := by decide
 have hg := getI_enc h1 (d ++ r)
 have hc : cntE (encI (1 : Nat) ++ (d ++ r)) 16 = 0 := cntE_enc h1 (by decide) (by decide) (by rw [List.length_append]; omega)
 unfold digN digE digC dgA dgN dgC
 rw [List.append_assoc, hc, if_pos rfl, if_pos rfl, hg]
 simp only
 refine ⟨?_, ?_, ?_⟩
 ·rw [List.length_append, h]; omega
 ·rfl
 ·rw [Int.toNat_natCast, List.drop_left' rfl, List.take_left' (by omega)]
end
theorem d_part {l pre p rest : List Int} {k : Nat} {d d' : List Value} (hl : l = pre ++ (p ++ rest)) (h : dP l k = ((pre.length : Int), 0, d)) (hN : (dk k).N (p ++ rest) = (p.length : Int)) (hE : (dk k).E (p ++ rest) = 0) (hD : (dk k).D (p ++ rest) d = d') : dP l (k + 1) = (((pre ++ p).length : Int), 0, d') := by
 have hd : l.drop ((pre.length : Int)).toNat = p ++ rest := by rw [Int.toNat_natCast, hl, List.drop_left' rfl]
 rw [dP, if_pos (by rw [h]), h]
 simp only
 rw [hd, hN, hE, hD, List.length_append]
 congr 1
theorem sp_z {A vs : List Value} {o o' : Nat} (hA : A.length = o) (hv : o + vs.length = o') : splice (A ++ z46.drop o) o vs = (A ++ vs) ++ z46.drop o' := by
 have hz : (z46.drop o).drop vs.length = z46.drop o' := by rw [List.drop_drop, hv]
 have := splice_right (B := z46.drop o) (vs := vs) (j := 0) hA
 rw [Nat.add_zero] at this
 rw [this]
 unfold splice
 rw [List.take_zero, List.nil_append, Nat.zero_add, hz, List.append_assoc]
theorem k7 (l : List Int) : (dk 7).N l = gbN l /\ (dk 7).E l = cntE l 1 /\ ∀ d, (dk 7).D l d = splice d 45 [.string (gbS l)] := by
 rw [show dk 7 = .sig from rfl]
 exact ⟨rfl, rfl, fun _ => rfl⟩
theorem dP_enc {a : Ans} (ok : a.Ok) (r : List Int) : dP (encB a ++ r) 8 = (((encB a).length : Int), 0, a.C) := by
 have hn := ok.nums
 have n1 : ∀ x ∈ [a.w, a.q], inR x := fun x hx => by
  simp only [List.mem_cons, List.not_mem_nil, or_false] at hx
  rcases hx with rfl | rfl <;> exact hn _ (by simp only [List.mem_cons, true_or, or_true])
 have n4 : ∀ x ∈ [a.k, a.f, a.sk, a.sd], inR x := fun x hx => by
  simp only [List.mem_cons, List.not_mem_nil, or_false] at hx
  rcases hx with rfl | rfl | rfl | rfl <;> exact hn _ (by simp only [List.mem_cons, true_or, or_true])
 have n5 : ∀ x ∈ [a.o, a.si, a.st, a.al, a.wa], inR x := fun x hx => by
  simp only [List.mem_cons, List.not_mem_nil, or_false] at hx
  rcases hx with rfl | rfl | rfl | rfl | rfl <;> exact hn _ (by simp only [List.mem_cons, true_or, or_true])
 have htl := ok.tl; have hhl := ok.hl; have hgl := ok.gl
 have pl := ok.pl; have rl := ok.rl
 have bl := bys_len a.pd; have bl2 := bys_len a.rt
 generalize hl : encB a ++ r = l
 have e0 : dP l 0 = ((([] : List Int).length : Int), 0, z46) := rfl
 have i1 : ∀ rest, getL rdI (intsB [a.w, a.q] ++ rest) = _ := fun rest => p_ints (r := rest) n1 (by show 2 <= 1000; omega)
 have i4 : ∀ rest, getL rdI (intsB [a.k, a.f, a.sk, a.sd] ++ rest) = _ := fun rest => p_ints (r := rest) n4 (by show 4 <= 1000; omega)
 have i5 : ∀ rest, getL rdI (intsB [a.o, a.si, a.st, a.al, a.wa] ++ rest) = _ := fun rest => p_ints (r := rest) n5 (by show 5 <= 1000; omega)
 have s3 : ∀ rest, getL rdS (strsB [a.ts] ++ rest) = _ := fun rest => p_strs (r := rest) (s := a.ts) (by omega)
 have s6 : ∀ rest, getL rdS (strsB [a.wh] ++ rest) = _ := fun rest => p_strs (r := rest) (s := a.wh) (by omega)
 have e1 := d_part (k := 0) (p := intsB [a.w, a.q]) (rest := (encI (1 : Nat) ++ a.pd) ++ strsB [a.ts] ++ intsB [a.k, a.f, a.sk, a.sd] ++ intsB [a.o, a.si, a.st, a.al, a.wa] ++ strsB [a.wh] ++ (encI (1 : Nat) ++ a.rt) ++ bytesB a.sg ++ r) (d' := [.int .i64 a.w, .int .i64 a.q] ++ z46.drop 2) (by rw [<-hl]; unfold encB msgB msg6 msg5 msg4 msg3 msg2 msg1; simp only [List.append_assoc, List.nil_append]) e0
  (by show (getL rdI _).2.1 = _; rw [i1]) (by show itE _ 2 = 0; unfold itE; rw [i1]; rfl) (by show stI z46 [0, 1] (getL rdI _).1 = _; rw [i1]; rfl)
 have e2 := d_part (k := 1) (p := encI (1 : Nat) ++ a.pd) (rest := strsB [a.ts] ++ intsB [a.k, a.f, a.sk, a.sd] ++ intsB [a.o, a.si, a.st, a.al, a.wa] ++ strsB [a.wh] ++ (encI (1 : Nat) ++ a.rt) ++ bytesB a.sg ++ r) (d' := ([.int .i64 a.w, .int .i64 a.q] ++ bys a.pd) ++ z46.drop 18) (by rw [<-hl]; unfold encB msgB msg6 msg5 msg4 msg3 msg2 msg1; simp only [List.append_assoc, List.nil_append]) e1
  (p_dig pl).1 (p_dig pl).2.1 (by show splice _ 2 (digC _) = _; rw [(p_dig pl).2.2]; exact sp_z rfl (by omega))
 have e3 := d_part (k := 2) (p := strsB [a.ts]) (rest := intsB [a.k, a.f, a.sk, a.sd] ++ intsB [a.o, a.si, a.st, a.al, a.wa] ++ strsB [a.wh] ++ (encI (1 : Nat) ++ a.rt) ++ bytesB a.sg ++ r) (d' := (([.int .i64 a.w, .int .i64 a.q] ++ bys a.pd) ++ [.string a.ts]) ++ z46.drop 19) (by rw [<-hl]; unfold encB msgB msg6 msg5 msg4 msg3 msg2 msg1; simp only [List.append_assoc, List.nil_append]) e2
  (by show (getL rdS _).2.1 = _; rw [s3]) (by show txtE _ = 0; unfold txtE; rw [s3]; rfl) (by show splice _ 18 [.string (strAt (getL rdS _).1 0)] = _; rw [s3]; exact sp_z (by rw [List.length_append, bl, pl]; rfl) rfl)
 have e4 := d_part (k := 3) (p := intsB [a.k, a.f, a.sk, a.sd]) (rest := intsB [a.o, a.si, a.st, a.al, a.wa] ++ strsB [a.wh] ++ (encI (1 : Nat) ++ a.rt) ++ bytesB a.sg ++ r) (d' := (([.int .i64 a.w, .int .i64 a.q] ++ bys a.pd) ++ [.string a.ts] ++ [.int .i64 a.k] ++ [.int .i64 a.f] ++ [.int .i64 a.sk] ++ [.int .i64 a.sd]) ++ z46.drop 23) (by rw [<-hl]; unfold encB msgB msg6 msg5 msg4 msg3 msg2 msg1; simp only [List.append_assoc, List.nil_append]) e3
  (by show (getL rdI _).2.1 = _; rw [i4]) (by show itE _ 4 = 0; unfold itE; rw [i4]; rfl) (by
   show stI _ [19, 20, 21, 22] (getL rdI _).1 = _
   rw [i4]
   show splice (splice (splice (splice _ 19 [.int .i64 a.k]) 20 [.int .i64 a.f]) 21 [.int .i64 a.sk]) 22 [.int .i64 a.sd] = _
   rw [sp_z (o' := 20) (by simp only [List.length_append, bl, pl, List.length_cons, List.length_nil]) rfl, sp_z (o' := 21) (by simp only [List.length_append, bl, pl, List.length_cons, List.length_nil]) rfl, sp_z (o' := 22) (by simp only [List.length_append, bl, pl, List.length_cons, List.length_nil]) rfl, sp_z (o' := 23) (by simp only [List.length_append, bl, pl, List.length_cons, List.length_nil]) rfl])
 have z24 : z46.drop 24 = [.string .empty] ++ z46.drop 25 := rfl
 have e5 := d_part (k := 4) (p := intsB [a.o, a.si, a.st, a.al, a.wa]) (rest := strsB [a.wh] ++ (encI (1 : Nat) ++ a.rt) ++ bytesB a.sg ++ r) (d' := (([.int .i64 a.w, .int .i64 a.q] ++ bys a.pd) ++ [.string a.ts] ++ [.int .i64 a.k] ++ [.int .i64 a.f] ++ [.int .i64 a.sk] ++ [.int .i64 a.sd] ++ [.int .i64 a.o] ++ [.string .empty] ++ [.int .i64 a.si] ++ [.int .i64 a.st] ++ [.int .i64 a.al] ++ [.int .i64 a.wa]) ++ z46.drop 29) (by rw [<-hl]; unfold encB msgB msg6 msg5 msg4 msg3 msg2 msg1; simp only [List.append_assoc, List.nil_append]) e4
  (by show (getL rdI _).2.1 = _; rw [i5]) (by show itE _ 5 = 0; unfold itE; rw [i5]; rfl) (by
   show stI _ [23, 25, 26, 27, 28] (getL rdI _).1 = _
   rw [i5]
   show splice (splice (splice (splice (splice _ 23 [.int .i64 a.o]) 25 [.int .i64 a.si]) 26 [.int .i64 a.st]) 27 [.int .i64 a.al]) 28 [.int .i64 a.wa] = _
   rw [sp_z (o' := 24) (by simp only [List.length_append, bl, pl, List.length_cons, List.length_nil]) rfl, z24, <-List.append_assoc, sp_z (o' := 26) (by simp only [List.length_append, bl, pl, List.length_cons, List.length_nil]) rfl, sp_z (o' := 27) (by simp only [List.length_append, bl, pl, List.length_cons, List.length_nil]) rfl, sp_z (o' := 28) (by simp only [List.length_append, bl, pl, List.length_cons, List.length_nil]) rfl, sp_z (o' := 29) (by simp only [List.length_append, bl, pl, List.length_cons, List.length_nil]) rfl])
 have e6 := d_part (k := 5) (p := strsB [a.wh]) (rest := (encI (1 : Nat) ++ a.rt) ++ bytesB a.sg ++ r) (d' := (([.int .i64 a.w, .int .i64 a.q] ++ bys a.pd) ++ [.string a.ts] ++ [.int .i64 a.k] ++ [.int .i64 a.f] ++ [.int .i64 a.sk] ++ [.int .i64 a.sd] ++ [.int .i64 a.o] ++ [.string a.wh] ++ [.int .i64 a.si] ++ [.int .i64 a.st] ++ [.int .i64 a.al] ++ [.int .i64 a.wa]) ++ z46.drop 29) (by rw [<-hl]; unfold encB msgB msg6 msg5 msg4 msg3 msg2 msg1; simp only [List.append_assoc, List.nil_append]) e5
  (by show (getL rdS _).2.1 = _; rw [s6]) (by show txtE _ = 0; unfold txtE; rw [s6]; rfl) (by
   show splice _ 24 [.string (strAt (getL rdS _).1 0)] = _
   rw [s6]
   have := splice_right (A := ([.int .i64 a.w, .int .i64 a.q] ++ bys a.pd) ++ [.string a.ts] ++ [.int .i64 a.k] ++ [.int .i64 a.f] ++ [.int .i64 a.sk] ++ [.int .i64 a.sd] ++ [.int .i64 a.o]) (B := [.string .empty] ++ [.int .i64 a.si] ++ [.int .i64 a.st] ++ [.int .i64 a.al] ++ [.int .i64 a.wa] ++ z46.drop 29) (vs := [.string a.wh]) (n := 24) (j := 0) (by simp only [List.length_append, bl, pl, List.length_cons, List.length_nil])
   simp only [List.append_assoc] at this ⊢
   exact this)
 have e7 := d_part (k := 6) (p := encI (1 : Nat) ++ a.rt) (rest := bytesB a.sg ++ r) (d' := (([.int .i64 a.w, .int .i64 a.q] ++ bys a.pd) ++ [.string a.ts] ++ [.int .i64 a.k] ++ [.int .i64 a.f] ++ [.int .i64 a.sk] ++ [.int .i64 a.sd] ++ [.int .i64 a.o] ++ [.string a.wh] ++ [.int .i64 a.si] ++ [.int .i64 a.st] ++ [.int .i64 a.al] ++ [.int .i64 a.wa] ++ bys a.rt) ++ z46.drop 45) (by rw [<-hl]; unfold encB msgB msg6 msg5 msg4 msg3 msg2 msg1; simp only [List.append_assoc, List.nil_append]) e6
  (p_dig rl).1 (p_dig rl).2.1 (by show splice _ 29 (digC _) = _; rw [(p_dig rl).2.2]; exact sp_z (by simp only [List.length_append, bl, pl, List.length_cons, List.length_nil]) (by omega))
 have hs := rdS_enc (s := a.sg) (by unfold inR; omega) r
 rw [show rdS (bytesB a.sg ++ r) = (.string (gbS (bytesB a.sg ++ r)), gbN (bytesB a.sg ++ r), cntE (bytesB a.sg ++ r) 1) from rfl] at hs
 obtain ⟨hs3, hs0⟩ := Prod.mk.inj hs
 obtain ⟨hs1, hs2⟩ := Prod.mk.inj hs0
 have e8 := d_part (k := 7) (p := bytesB a.sg) (rest := r) (d' := (([.int .i64 a.w, .int .i64 a.q] ++ bys a.pd) ++ [.string a.ts] ++ [.int .i64 a.k] ++ [.int .i64 a.f] ++ [.int .i64 a.sk] ++ [.int .i64 a.sd] ++ [.int .i64 a.o] ++ [.string a.wh] ++ [.int .i64 a.si] ++ [.int .i64 a.st] ++ [.int .i64 a.al] ++ [.int .i64 a.wa] ++ bys a.rt ++ [.string a.sg]) ++ z46.drop 46) (by rw [<-hl]; unfold encB msgB msg6 msg5 msg4 msg3 msg2 msg1; simp only [List.append_assoc, List.nil_append]) e7
  ((k7 (bytesB a.sg ++ r)).1.trans hs1) ((k7 (bytesB a.sg ++ r)).2.1.trans hs2) (by
   refine ((k7 (bytesB a.sg ++ r)).2.2 _).trans ?_
   rw [hs3]
   exact sp_z (by simp only [List.length_append, bl, pl, bl2, rl, List.length_cons, List.length_nil]) rfl)
 refine Eq.trans e8 ?_
 have q1 : (((([] ++ intsB [a.w, a.q]) ++ (encI (1 : Nat) ++ a.pd)) ++ strsB [a.ts] ++ intsB [a.k, a.f, a.sk, a.sd] ++ intsB [a.o, a.si, a.st, a.al, a.wa] ++ strsB [a.wh] ++ (encI (1 : Nat) ++ a.rt)) ++ bytesB a.sg) = encB a := by
  unfold encB msgB msg6 msg5 msg4 msg3 msg2 msg1
  rw [List.nil_append]
 have q2 : (([.int .i64 a.w, .int .i64 a.q] ++ bys a.pd) ++ [.string a.ts] ++ [.int .i64 a.k] ++ [.int .i64 a.f] ++ [.int .i64 a.sk] ++ [.int .i64 a.sd] ++ [.int .i64 a.o] ++ [.string a.wh] ++ [.int .i64 a.si] ++ [.int .i64 a.st] ++ [.int .i64 a.al] ++ [.int .i64 a.wa] ++ bys a.rt ++ [.string a.sg]) ++ z46.drop 46 = a.C := by
  unfold Ans.C
  rw [show z46.drop 46 = [] from rfl]
  simp only [List.append_assoc, List.nil_append, List.append_nil, List.cons_append]
 rw [q1, q2]
theorem decV_enc {a : Ans} (ok : a.Ok) (r : List Int) : decV (encB a ++ r) = .tuple ⟨[.agg ⟨a.C⟩, .int .i64 (encB a).length, .int .i64 0]⟩ := by
 unfold decV dE dN dD
 rw [dP_enc ok r, if_pos rfl]
theorem encB_iff {a b : Ans} (ha : a.Ok) (hb : b.Ok) : encB a = encB b ↔ a = b := by
 refine ⟨fun h => ?_, fun h => by rw [h]⟩
 have e1 := dP_enc ha []
 rw [h, dP_enc hb []] at e1
 exact (Ans.C_inj hb ha (congrArg (fun x : Int × Int × List Value => x.2.2) e1)).symm
end Go.Proofs.YtfgmplbclpadbaaGreatDoor
namespace Go.Proofs.YtfgmplbclpadbaaGreatDoor
open Go.AM
set_option maxRecDepth 100000
set_option maxHeartbeats 1000000
set_option maxHeartbeats 8000000
def R_env : List Value -> AH -> Value -> AH -> Prop := fun args h v h' => ∀ n, args = [.int .i64 n] -> ∃ t' nx' wr' x y z, h' = ⟨t', nx', wr'⟩ /\ Fr h.t h.next h.wr t' nx' wr' 5 /\ v = .agg ⟨[.int .i64 x, .int .i64 y, .int .i64 z]⟩ /\ inR x /\ inR y /\ inR z
noncomputable def c_env := cEx Tryz.prog 21 R_env
theorem con_env : Con Tryz.prog 21 c_env := con_ex Tryz.func21 rfl
theorem env_c {t : Tr AObj} {nx wr : Nat} {n : Int} (hn : inR n) (hN : nx + 100 <= BIG) (hwr : wr <= BIG) : ∃ v h', c_env [.int .i64 n] ⟨t, nx, wr⟩ = some (v, h') /\ ∃ t' nx' wr' x y z, h' = ⟨t', nx', wr'⟩ /\ Fr t nx wr t' nx' wr' 5 /\ v = .agg ⟨[.int .i64 x, .int .i64 y, .int .i64 z]⟩ /\ inR x /\ inR y /\ inR z := by
 have hP := Fits
 have hC : CallSound Tryz.prog (tabOf [(7, c_around)]) := tab_sound (tab_cons con_around tab_end)
 have hF0 : Fr t nx wr t nx wr 0 := Fr.refl
 have x0 := around_lo (n := n) (m := 4096) zd
 have x1 := around_hi (n := n) (m := 4096) zd
 suffices key : SureK Tryz.prog ⟨t, nx, wr⟩ _ [] _ (EndR Tryz.prog _ (R_env [.int .i64 n] ⟨t, nx, wr⟩)) by
  obtain ⟨v, h', q, c⟩ := sure_start (R := R_env) (sz := 21) Tryz.func21 rfl rfl zo key
  exact ⟨v, h', q, c n rfl⟩
 refine s_seq (s_region hP hC ?_)
 refine os (y_alloc rfl T.z27 rfl rfl) ?_
 refine o_done (se_seq (s_seq (s_region hP hC (oM ?_))))
 refine o_call0 (wA_none rfl) rfl rfl rfl zv zd ?_
 refine ⟨_, _, (tab_hit.trans (around_c (by simp only [ok_around, Bool.and_eq_true, decide_eq_true_eq]; exact ⟨hn, by decide⟩))), ?_⟩
 refine oA ?_
 refine o_done (se_seq (s_seq ?_))
 refine s_draw hP hC zr ?_
 refine dM ?_
 refine ds (x_bin rfl zt (by rfl) (b_remS ow zd)) ?_
 refine ds (y_bsliceN (cs := ints [0, 0, 1, 8, 4]) rfl (by rfl) u22 T.s3 T.z3 zd zd rfl rfl (by rfl)) ?_
 refine dM ?_
 refine ds (x_bin rfl zt (by rfl) (b_quoS ow ow zd)) ?_
 refine ds (x_bin rfl zt (by rfl) (b_remS ow zd)) ?_
 refine ds (x_index rfl zt zt u22 T.s3 ow ow) ?_
 refine ds (x_load1 rfl zt T.g3 (l_ints (l := [0, 0, 1, 8, 4]) (whole_row hg rfl) ow (by show _ < (5 : Int); omega))) ?_
 refine ds (y_bsliceN (cs := ints [0, 0, 2, 8]) rfl (by rfl) u22 T.s3 T.z3 zd zd rfl rfl (by rfl)) ?_
 refine dM ?_
 refine ds (x_bin rfl zt (by rfl) (b_quoS ow ow zd)) ?_
 refine ds (x_bin rfl zt (by rfl) (b_remS ow zd)) ?_
 refine ds (x_index rfl zt zt u22 T.s3 ow ow) ?_
 refine ds (x_load1 rfl zt T.g3 (l_ints (l := [0, 0, 2, 8]) (whole_row hg rfl) ow (by show _ < (4 : Int); omega))) ?_
 refine ds (x_build (v := .agg ⟨[.int .i64 (around n 4096 % 4), .int .i64 (ith [0, 0, 1, 8, 4] (around n 4096 / 4 % 5)), .int .i64 (ith [0, 0, 2, 8] (around n 4096 / 20 % 4))]⟩) rfl zp T.z27 rfl zr) ?_
 refine d_stepN (wA_none rfl) rfl (y_storeA rfl zt zt T.s27 rfl hg rfl rfl rfl) ?_
 refine d_done ⟨de_ok (tail_my (B := 0) (Y := none) (M := [1, 1, 1, 1, 1, 1, 1, 1, 1, 1, 1, 1, 1, 1, 1, 2]) (fw := 0) (my_w (my_q (my_q (my_q (my_q (my_q (my_q (my_q (my_q (my_q (my_q (my_q (my_q (my_q (my_q (my_q my_nil ow) ow) ow) ow) ow) ow) ow) ow) ow) ow) ow) ow) ow) ow) ow) ow (fun y q => by cases q)) zd zr) (by try dsimp only; omega) (by try dsimp only; omega), ?_⟩
 refine se_seq ?_
 refine s_ret ?_
 refine ⟨.inr rfl, _, (resA_cell hg T.g27 T.s27 (l_all (whole_row (show Tr.get _ nx = _ from by rw [gp rfl]) rfl) rfl) resA_nil), fun n2 hs2 => ?_⟩
 cases hs2
 exact ⟨_, _, _, _, _, _, rfl, ⟨by show nx <= _; omega, by show _ <= nx + 5; omega, by show min wr nx <= _; omega, by show _ <= wr; omega, fun i (hi : i < nx) => by (repeat (first | rw [gn ow])) <;> first | rfl | assumption | (rw [gp ow]; done) | (rw [gp ow]; rfl)⟩, rfl, by unfold inR; omega, pickI zd ow (by show _ < (5 : Int); omega), pickI zd ow (by show _ < (4 : Int); omega)⟩
def sT0 : ByteArray := ⟨⟨[116, 48]⟩⟩
def sT1 : ByteArray := ⟨⟨[116, 49]⟩⟩
def sP0 : ByteArray := ⟨⟨[112, 48]⟩⟩
def R_made : List Value -> AH -> Value -> AH -> Prop := fun args h v h' => ∀ n m, args = [.int .i64 n, .int .i64 m] -> ∃ t' nx' wr', ∃ a : Ans, h' = ⟨t', nx', wr'⟩ /\ Fr h.t h.next h.wr t' nx' wr' 20 /\ v = .agg ⟨a.C⟩ /\ a.Ok /\ a.ts.size <= 1000 /\ a.wh.size <= 1000
noncomputable def c_made := cEx Tryz.prog 5 R_made
theorem con_made : Con Tryz.prog 5 c_made := con_ex Tryz.func5 rfl
theorem made_c {t : Tr AObj} {nx wr : Nat} {n m : Int} (hn : inR n) (hm : inR m) (hN : nx + 200 <= BIG) (hwr : wr <= BIG) : ∃ v h', c_made [.int .i64 n, .int .i64 m] ⟨t, nx, wr⟩ = some (v, h') /\ ∃ t' nx' wr', ∃ a : Ans, h' = ⟨t', nx', wr'⟩ /\ Fr t nx wr t' nx' wr' 20 /\ v = .agg ⟨a.C⟩ /\ a.Ok /\ a.ts.size <= 1000 /\ a.wh.size <= 1000 := by
 have hP := Fits
 have hC : CallSound Tryz.prog (tabOf [(7, c_around), (21, c_env)]) := tab_sound (tab_cons con_around (tab_cons con_env tab_end))
 have hF0 : Fr t nx wr t nx wr 0 := Fr.refl
 have x0 := around_lo (n := n) (m := 65536) zd
 have x1 := around_hi (n := n) (m := 65536) zd
 obtain ⟨x, hx⟩ : ∃ x, x = around n 65536 := ⟨_, rfl⟩
 rw [<-hx] at x0 x1
 have y0 := around_lo (n := m) (m := 65536) zd
 have y1 := around_hi (n := m) (m := 65536) zd
 obtain ⟨y, hy⟩ : ∃ y, y = around m 65536 := ⟨_, rfl⟩
 rw [<-hy] at y0 y1
 suffices key : SureK Tryz.prog ⟨t, nx, wr⟩ _ [] _ (EndR Tryz.prog _ (R_made [.int .i64 n, .int .i64 m] ⟨t, nx, wr⟩)) by
  obtain ⟨v, h', q, c⟩ := sure_start (R := R_made) (sz := 66) Tryz.func5 rfl rfl zo key
  exact ⟨v, h', q, c n m rfl⟩
 refine s_seq (s_region hP hC ?_)
 refine os (y_alloc rfl T.z35 rfl rfl) ?_
 refine o_done (se_seq (s_seq (s_region hP hC (oM ?_))))
 refine o_call0 (wA_none rfl) rfl rfl rfl zv zd ?_
 refine ⟨_, _, ((tab_hit.trans (around_c (by simp only [ok_around, Bool.and_eq_true, decide_eq_true_eq]; exact ⟨hn, by decide⟩))).trans (by rw [<-hx])), ?_⟩
 refine oA ?_
 refine o_done (se_seq (s_seq (s_region hP hC (oM ?_))))
 refine o_call0 (wA_none rfl) rfl rfl rfl zv zd ?_
 refine ⟨_, _, ((tab_hit.trans (around_c (by simp only [ok_around, Bool.and_eq_true, decide_eq_true_eq]; exact ⟨hm, by decide⟩))).trans (by rw [<-hy])), ?_⟩
 refine oA ?_
 refine o_done (se_seq (s_seq (s_region hP hC (oM ?_))))
 refine os (x_bin rfl zt (by rfl) (b_remS ow zd)) ?_
 refine os (y_bsliceN (cs := ints [0, 1, 2, 3, 63]) rfl (by rfl) u22 T.s3 T.z3 zd zd rfl rfl (by rfl)) ?_
 refine oM ?_
 refine os (x_bin rfl zt (by rfl) (b_quoS ow ow zd)) ?_
 refine os (x_bin rfl zt (by rfl) (b_remS ow zd)) ?_
 refine os (x_index rfl zt zt u22 T.s3 ow ow) ?_
 refine os (x_load1 rfl zt T.g3 (l_ints (l := [0, 1, 2, 3, 63]) (whole_row hg rfl) ow (by show _ < (5 : Int); omega))) ?_
 refine os (x_build (v := .agg ⟨[.int .i64 (x % 6), .int .i64 (ith [0, 1, 2, 3, 63] (x / 6 % 5)), .int .u8 0, .int .u8 0, .int .u8 0, .int .u8 0, .int .u8 0, .int .u8 0, .int .u8 0, .int .u8 0, .int .u8 0, .int .u8 0, .int .u8 0, .int .u8 0, .int .u8 0, .int .u8 0, .int .u8 0, .int .u8 0, .string .empty, .int .i64 0, .int .i64 0, .int .i64 0, .int .i64 0, .int .i64 0, .string .empty, .int .i64 0, .int .i64 0, .int .i64 0, .int .i64 0, .int .u8 0, .int .u8 0, .int .u8 0, .int .u8 0, .int .u8 0, .int .u8 0, .int .u8 0, .int .u8 0, .int .u8 0, .int .u8 0, .int .u8 0, .int .u8 0, .int .u8 0, .int .u8 0, .int .u8 0, .int .u8 0, .string .empty]⟩) rfl zp T.z35 rfl zr) ?_
 refine os (y_alloc rfl T.z35 rfl rfl) ?_
 refine o_stepN (wA_none rfl) rfl (y_storeA rfl zt zt T.s35 rfl hg rfl rfl rfl) ?_
 refine o_done (se_seq (s_seq ?_))
 refine s_draw hP hC zr ?_
 refine ds (y_bsliceN (cs := [.string sT0, .string sT1, .string .empty]) rfl (by rfl) u55 T.s9 T.z9 zd zd rfl rfl (by rfl)) ?_
 refine dM ?_
 refine ds (x_bin rfl zt (by rfl) (b_quoS ow ow zd)) ?_
 refine ds (x_bin rfl zt (by rfl) (b_remS ow zd)) ?_
 have hs1k : (x / 30 % 3).toNat < List.length (α := Value) [.string sT0, .string sT1, .string .empty] := by show _ < 3; omega
 obtain ⟨s1, hs1, hs1b⟩ := pick3 hs1k zd zd zd
 refine ds (x_index rfl zt zt u55 T.s9 ow ow) ?_
 refine ds (x_load1 rfl zt T.g9 ((l_nth (whole_row hg rfl) hs1k).trans (by rw [hs1]))) ?_
 refine dM ?_
 refine ds (x_bin rfl zt (by rfl) (b_quoS ow ow zd)) ?_
 refine d_callR (tab_missR zd (tab_hitR (env_c (n := x / 90) (by unfold inR; omega) ow (Nat.le_refl _)))) (wA_none rfl) rfl rfl rfl zv zd (fun v1 ta1 na1 wa1 hR1 => ?_)
 obtain ⟨t1, nx1, wz1, ex, ey, ez, hh1, hf1, rfl, hex, hey, hez⟩ := hR1
 cases hh1
 have qa1 := hf1.le
 have qb1 := hf1.hi
 have qc1 := hf1.wlo
 have qd1 := hf1.whi
 refine dM ?_
 refine ds (x_bin rfl zt (by rfl) (b_remS ow zd)) ?_
 refine ds (x_build (v := .agg ⟨[.int .u8 0, .int .u8 0, .int .u8 0, .int .u8 0, .int .u8 0, .int .u8 0, .int .u8 0, .int .u8 0, .int .u8 0, .int .u8 0, .int .u8 0, .int .u8 0, .int .u8 0, .int .u8 0, .int .u8 0, .int .u8 0, .string s1, .int .i64 (ex), .int .i64 (ey), .int .i64 (ez), .int .i64 (y % 97)]⟩) rfl zp T.z29 rfl zr) ?_
 refine ds (x_field (off' := 2) rfl zt u35 rfl T.s29 rfl) ?_
 refine d_stepN (wA_none rfl) rfl (y_storeAP (off := 2) (d' := [.int .i64 (x % 6), .int .i64 (ith [0, 1, 2, 3, 63] (x / 6 % 5)), .int .u8 0, .int .u8 0, .int .u8 0, .int .u8 0, .int .u8 0, .int .u8 0, .int .u8 0, .int .u8 0, .int .u8 0, .int .u8 0, .int .u8 0, .int .u8 0, .int .u8 0, .int .u8 0, .int .u8 0, .int .u8 0, .string s1, .int .i64 (ex), .int .i64 (ey), .int .i64 (ez), .int .i64 (y % 97), .int .i64 0, .string .empty, .int .i64 0, .int .i64 0, .int .i64 0, .int .i64 0, .int .u8 0, .int .u8 0, .int .u8 0, .int .u8 0, .int .u8 0, .int .u8 0, .int .u8 0, .int .u8 0, .int .u8 0, .int .u8 0, .int .u8 0, .int .u8 0, .int .u8 0, .int .u8 0, .int .u8 0, .int .u8 0, .string .empty]) rfl zt zt T.s29 rfl (by (repeat (first | rw [gn ow] | rw [hf1.same _ ow])) <;> first | rfl | assumption | (rw [gp ow]; done) | (rw [gp ow]; rfl)) rfl (Nat.le_of_ble_eq_true rfl) rfl rfl) ?_
 refine d_done ⟨de_ok (tail_my (B := 0) (Y := none) (M := [1, 1, 1, 1, 1, 1, 1, 1, 1, 1, 1, 1, 1, 2]) (fw := 0) (my_w (my_q (my_q (my_q (my_q (my_q (my_q (my_q (my_q (my_q (my_q (my_q (my_q (my_q my_nil ow) ow) ow) ow) ow) ow) ow) ow) ow) ow) ow) ow) ow) ow (fun y q => by cases q)) zd zr) (by try dsimp only; omega) (by try dsimp only; omega), ?_⟩
 refine se_seq (s_seq (s_region hP hC (oM ?_)))
 refine os (x_convI rfl zt u3 u5) ?_
 refine os (x_field (off' := 2) rfl zt u35 rfl T.s29 rfl) ?_
 refine os (x_field (off' := 2) rfl zt u29 rfl T.s25 rfl) ?_
 refine os (x_indexA rfl zt (by rfl) u25 T.s5 zd zd) ?_
 refine o_stepN (wA_none rfl) rfl (y_store1P (off := 2) (d' := [.int .i64 (x % 6), .int .i64 (ith [0, 1, 2, 3, 63] (x / 6 % 5)), .int .u8 (IntKind.u8.wrap x), .int .u8 0, .int .u8 0, .int .u8 0, .int .u8 0, .int .u8 0, .int .u8 0, .int .u8 0, .int .u8 0, .int .u8 0, .int .u8 0, .int .u8 0, .int .u8 0, .int .u8 0, .int .u8 0, .int .u8 0, .string s1, .int .i64 (ex), .int .i64 (ey), .int .i64 (ez), .int .i64 (y % 97), .int .i64 0, .string .empty, .int .i64 0, .int .i64 0, .int .i64 0, .int .i64 0, .int .u8 0, .int .u8 0, .int .u8 0, .int .u8 0, .int .u8 0, .int .u8 0, .int .u8 0, .int .u8 0, .int .u8 0, .int .u8 0, .int .u8 0, .int .u8 0, .int .u8 0, .int .u8 0, .int .u8 0, .int .u8 0, .string .empty]) rfl zt zt rfl T.s5 (by (repeat (first | rw [gn ow] | rw [hf1.same _ ow])) <;> first | rfl | assumption | (rw [gp ow]; done) | (rw [gp ow]; rfl)) rfl (Nat.le_of_ble_eq_true rfl) rfl rfl) ?_
 refine o_done (se_seq (s_seq (s_region hP hC (oM ?_))))
 refine os (x_bin rfl zt (by rfl) (b_remS ow zd)) ?_
 refine os (y_bsliceN (cs := [.string .empty, .string sT0, .string sP0]) rfl (by rfl) u55 T.s9 T.z9 zd zd rfl rfl (by rfl)) ?_
 refine oM ?_
 refine os (x_bin rfl zt (by rfl) (b_quoS ow ow zd)) ?_
 refine os (x_bin rfl zt (by rfl) (b_remS ow zd)) ?_
 have hs2k : (y / 5 % 3).toNat < List.length (α := Value) [.string .empty, .string sT0, .string sP0] := by show _ < 3; omega
 obtain ⟨s2, hs2, hs2b⟩ := pick3 hs2k zd zd zd
 refine os (x_index rfl zt zt u55 T.s9 ow ow) ?_
 refine os (x_load1 rfl zt T.g9 ((l_nth (whole_row (by (repeat (first | rw [gn ow] | rw [hf1.same _ ow])) <;> first | rfl | assumption | (rw [gp ow]; done) | (rw [gp ow]; rfl)) rfl) hs2k).trans (by rw [hs2]))) ?_
 refine oM ?_
 refine os (x_bin rfl zt (by rfl) (b_quoS ow ow zd)) ?_
 refine os (x_bin rfl zt (by rfl) (b_remS ow zd)) ?_
 refine oM ?_
 refine os (x_bin rfl zt (by rfl) (b_quoS ow ow zd)) ?_
 refine os (x_bin rfl zt (by rfl) (b_remS ow zd)) ?_
 refine oM ?_
 refine os (x_bin rfl zt (by rfl) (b_remS ow zd)) ?_
 refine oM ?_
 refine os (x_bin rfl zt (by rfl) (b_remS ow zd)) ?_
 refine os (x_build (v := .agg ⟨[.int .i64 (y / 45 % 64), .int .i64 (y % 9), .int .i64 (y % 4)]⟩) rfl zp T.z31 rfl zr) ?_
 refine os (x_build (v := .agg ⟨[.int .i64 (y % 5), .string s2, .int .i64 (y / 15 % 3), .int .i64 (y / 45 % 64), .int .i64 (y % 9), .int .i64 (y % 4), .int .u8 0, .int .u8 0, .int .u8 0, .int .u8 0, .int .u8 0, .int .u8 0, .int .u8 0, .int .u8 0, .int .u8 0, .int .u8 0, .int .u8 0, .int .u8 0, .int .u8 0, .int .u8 0, .int .u8 0, .int .u8 0]⟩) rfl zp T.z33 rfl zr) ?_
 refine os (x_field (off' := 23) rfl zt u35 rfl T.s33 rfl) ?_
 refine o_stepN (wA_none rfl) rfl (y_storeAP (off := 23) (d' := [.int .i64 (x % 6), .int .i64 (ith [0, 1, 2, 3, 63] (x / 6 % 5)), .int .u8 (IntKind.u8.wrap x), .int .u8 0, .int .u8 0, .int .u8 0, .int .u8 0, .int .u8 0, .int .u8 0, .int .u8 0, .int .u8 0, .int .u8 0, .int .u8 0, .int .u8 0, .int .u8 0, .int .u8 0, .int .u8 0, .int .u8 0, .string s1, .int .i64 (ex), .int .i64 (ey), .int .i64 (ez), .int .i64 (y % 97), .int .i64 (y % 5), .string s2, .int .i64 (y / 15 % 3), .int .i64 (y / 45 % 64), .int .i64 (y % 9), .int .i64 (y % 4), .int .u8 0, .int .u8 0, .int .u8 0, .int .u8 0, .int .u8 0, .int .u8 0, .int .u8 0, .int .u8 0, .int .u8 0, .int .u8 0, .int .u8 0, .int .u8 0, .int .u8 0, .int .u8 0, .int .u8 0, .int .u8 0, .string .empty]) rfl zt zt T.s33 rfl (by (repeat (first | rw [gn ow] | rw [hf1.same _ ow])) <;> first | rfl | assumption | (rw [gp ow]; done) | (rw [gp ow]; rfl)) rfl (Nat.le_of_ble_eq_true rfl) rfl rfl) ?_
 refine o_done (se_seq (s_seq (s_region hP hC (oM ?_))))
 refine os (x_convI rfl zt u3 u5) ?_
 refine os (x_field (off' := 23) rfl zt u35 rfl T.s33 rfl) ?_
 refine os (x_field (off' := 29) rfl zt u33 rfl T.s25 rfl) ?_
 refine os (x_indexA rfl zt (by rfl) u25 T.s5 zd zd) ?_
 refine o_stepN (wA_none rfl) rfl (y_store1P (off := 30) (d' := [.int .i64 (x % 6), .int .i64 (ith [0, 1, 2, 3, 63] (x / 6 % 5)), .int .u8 (IntKind.u8.wrap x), .int .u8 0, .int .u8 0, .int .u8 0, .int .u8 0, .int .u8 0, .int .u8 0, .int .u8 0, .int .u8 0, .int .u8 0, .int .u8 0, .int .u8 0, .int .u8 0, .int .u8 0, .int .u8 0, .int .u8 0, .string s1, .int .i64 (ex), .int .i64 (ey), .int .i64 (ez), .int .i64 (y % 97), .int .i64 (y % 5), .string s2, .int .i64 (y / 15 % 3), .int .i64 (y / 45 % 64), .int .i64 (y % 9), .int .i64 (y % 4), .int .u8 0, .int .u8 (IntKind.u8.wrap y), .int .u8 0, .int .u8 0, .int .u8 0, .int .u8 0, .int .u8 0, .int .u8 0, .int .u8 0, .int .u8 0, .int .u8 0, .int .u8 0, .int .u8 0, .int .u8 0, .int .u8 0, .int .u8 0, .string .empty]) rfl zt zt rfl T.s5 (by (repeat (first | rw [gn ow] | rw [hf1.same _ ow])) <;> first | rfl | assumption | (rw [gp ow]; done) | (rw [gp ow]; rfl)) rfl (Nat.le_of_ble_eq_true rfl) rfl rfl) ?_
 refine o_done (se_seq (s_seq (s_region hP hC ?_)))
 refine os (x_loadA rfl zt T.g35 T.s35 (l_all (whole_row (by (repeat (first | rw [gn ow] | rw [hf1.same _ ow])) <;> first | rfl | assumption | (rw [gp ow]; done) | (rw [gp ow]; rfl)) rfl) rfl)) ?_
 refine o_stepN (wA_none rfl) rfl (y_storeA rfl zt zt T.s35 rfl (by (repeat (first | rw [gn ow] | rw [hf1.same _ ow])) <;> first | rfl | assumption | (rw [gp ow]; done) | (rw [gp ow]; rfl)) rfl rfl rfl) ?_
 refine o_done (se_seq ?_)
 refine s_ret ?_
 have hux := u8_rng x
 have huy := u8_rng y
 have hrep : ∀ k, Byt (List.replicate k 0) := fun k z hz => by rw [List.eq_of_mem_replicate hz]; decide
 refine ⟨.inr rfl, _, (resA_cell (by (repeat (first | rw [gn ow] | rw [hf1.same _ ow])) <;> first | rfl | assumption | (rw [gp ow]; done) | (rw [gp ow]; rfl)) T.g35 T.s35 (l_all (whole_row (show Tr.get _ nx = _ from by rw [gp rfl]) rfl) rfl) resA_nil), fun n2 m2 hs2 => ?_⟩
 cases hs2
 refine ⟨_, _, _, ⟨x % 6, ith [0, 1, 2, 3, 63] (x / 6 % 5), ex, ey, ez, y % 97, y % 5, y / 15 % 3, y / 45 % 64, y % 9, y % 4, IntKind.u8.wrap x :: List.replicate 15 0, 0 :: IntKind.u8.wrap y :: List.replicate 14 0, s1, s2, .empty⟩, rfl, ⟨by show nx <= _; omega, by show _ <= nx + 20; omega, by show min wr nx <= _; omega, by show _ <= wr; omega, fun i (hi : i < nx) => by (repeat (first | rw [gn ow] | rw [hf1.same _ ow])) <;> first | rfl | assumption | (rw [gp ow]; done) | (rw [gp ow]; rfl)⟩, rfl, ⟨fun z hz => ?_, rfl, rfl, fun z hz => ?_, fun z hz => ?_, by show s1.size <= 1500000; omega, by show s2.size <= 1500000; omega, by show ByteArray.empty.size <= 1500000; decide⟩, hs1b, hs2b⟩
 ·simp only [List.mem_cons, List.not_mem_nil, or_false] at hz
  have hq : inR (ith [0, 1, 2, 3, 63] (x / 6 % 5)) := pickI zd ow (by show _ < (5 : Int); omega)
  rcases hz with rfl | rfl | rfl | rfl | rfl | rfl | rfl | rfl | rfl | rfl | rfl <;> first | assumption | (unfold inR; omega)
 ·rcases List.mem_cons.1 hz with rfl | hz
  ·exact hux
  ·exact hrep 15 z hz
 ·rcases List.mem_cons.1 hz with rfl | hz
  ·decide
  ·rcases List.mem_cons.1 hz with rfl | hz
   ·exact huy
   ·exact hrep 14 z hz
end Go.Proofs.YtfgmplbclpadbaaGreatDoor
