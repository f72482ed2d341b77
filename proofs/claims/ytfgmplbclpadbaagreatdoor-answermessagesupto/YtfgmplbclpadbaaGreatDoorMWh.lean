/-
  GetInts of the program.
-/
import Derived.Test.YtfgmplbclpadbaaGreatDoorMTy
import Derived.Test.YtfgmplbclpadbaaGreatDoorMA3
set_option linter.unusedSimpArgs false
set_option linter.unusedVariables false
namespace Go.Proofs.YtfgmplbclpadbaaGreatDoor
open Go.AM
set_option maxRecDepth 100000
set_option maxHeartbeats 1000000
set_option maxHeartbeats 8000000
theorem x_makeFunc {P : Program} {call : Call'} {e : Tr Value} {h : AH} {o : Oper} {f : FuncId} {a b : Array Operand} {vs us : List Value} (ho : o.op = .makeFunc (.func f) a b) (ha : evs e a.toList = some vs) (hb : evs e b.toList = some us) : doOp P call e h o = some (.func (.func f) ⟨vs⟩ ⟨us⟩, h) := by
 rw [do_op (by rw [ho]; simp), ho]
 simp only [aop, ha, hb]
theorem one_cells {v : Value} (h : oneC v = true) : v.cells.toList = [v] := by
 cases v <;> first | rfl | cases h
theorem l_setB {t : Tr AObj} {b nx wr low : Nat} {v : Value} {ro : Bool} : loadC ⟨t.set b (.row [v] b low ro 1), nx, wr⟩ b 0 1 = some [v] :=
 l_all (whole_row (show (t.set b (.row [v] b low ro 1)).get b = some (.row [v] b low ro 1) from by rw [gp rfl]) rfl) rfl
def nextF (a b : Nat) : Value := .func (.func 74) ⟨[]⟩ ⟨[.pointer (some ⟨a, 0, none⟩), .pointer (some ⟨b, 0, none⟩)]⟩
def RDpost (s : Value) (a : Int) (t : Tr AObj) (nx wr : Nat) (v : Value) (h' : AH) : Prop := ∃ t', h' = ⟨t', nx + 2, wr⟩ /\ v = nextF nx (nx + 1) /\ t'.get nx = some (.row [s] nx BIG false 1) /\ t'.get (nx + 1) = some (.row [.int .i64 a] (nx + 1) BIG false 1) /\ ∀ i, i < nx -> t'.get i = t.get i
noncomputable def c_reader := cEx Tryz.prog 50 (fun args h v h' => ∀ s a, args = [s, .int .i64 a] -> RDpost s a h.t h.next h.wr v h')
theorem con_reader : Con Tryz.prog 50 c_reader := con_ex Tryz.func50 rfl
theorem reader_c {t : Tr AObj} {nx wr : Nat} {s : Value} {a : Int} (ho : oneC s = true) : ∃ v h', c_reader [s, .int .i64 a] ⟨t, nx, wr⟩ = some (v, h') /\ RDpost s a t nx wr v h' := by
 have hP := Fits
 have hC : CallSound Tryz.prog (tabOf []) := tab_sound tab_end
 suffices key : SureK Tryz.prog ⟨t, nx, wr⟩ _ [] _ (EndR Tryz.prog _ (fun v h' => ∀ s' a', [s, .int .i64 a] = [s', .int .i64 a'] -> RDpost s' a' t nx wr v h')) by
  obtain ⟨v, h', q, b⟩ := sure_start (R := fun args h v h' => ∀ s a, args = [s, .int .i64 a] -> RDpost s a h.t h.next h.wr v h') (sz := 6) Tryz.func50 rfl rfl zo key
  exact ⟨v, h', q, b s a rfl⟩
 refine s_seq (s_region hP hC ?_)
 refine os (y_box1 rfl zt (one_cells ho)) ?_
 refine os (y_box1 rfl zt rfl) ?_
 refine oA ?_
 refine o_done (se_seq (s_seq (s_region hP hC ?_)))
 refine os (x_makeFunc rfl zv zv) ?_
 refine oA ?_
 refine o_done (se_seq ?_)
 refine s_ret ?_
 refine ⟨.inr rfl, _, (by simp only [Tryz.results50, resA, Tr.get_set, reduceIte, Nat.reduceEqDiff, Nat.reduceAdd] <;> rfl), fun s' a' hs' => ?_⟩
 cases hs'
 exact ⟨_, rfl, rfl, by (repeat (first | rw [gn ow])) <;> first | rfl | assumption | (rw [gp ow]; done) | (rw [gp ow]; rfl), by (repeat (first | rw [gn ow])) <;> first | rfl | assumption | (rw [gp ow]; done) | (rw [gp ow]; rfl), fun id hid => by (repeat (first | rw [gn ow])) <;> first | rfl | assumption | (rw [gp ow]; done) | (rw [gp ow]; rfl)⟩
def NXpost (l : List Int) (a b : Nat) (at' : Int) (t : Tr AObj) (nx wr : Nat) (v : Value) (h' : AH) : Prop := ∃ t' wr', h' = ⟨t', nx, wr'⟩ /\ v = .tuple ⟨[.int .i64 (getI (l.drop at'.toNat)).1, .int .i64 (at' + (getI (l.drop at'.toNat)).2.1), .int .i64 (getI (l.drop at'.toNat)).2.2]⟩ /\ t'.get b = some (.row [.int .i64 (at' + (getI (l.drop at'.toNat)).2.1)] b BIG false 1) /\ (∀ i, i ≠ b -> t'.get i = t.get i) /\ wr' = min wr b
def NXR : List Value -> AH -> Value -> AH -> Prop := fun args h v h' => ∀ K s l a b at', args = [.pointer (some ⟨a, 0, none⟩), .pointer (some ⟨b, 0, none⟩)] -> BV h.t K s l -> h.t.get a = some (.row [s] a BIG false 1) -> h.t.get b = some (.row [.int .i64 at'] b BIG false 1) -> NXpost l a b at' h.t h.next h.wr v h'
noncomputable def c_next := cEx Tryz.prog 74 NXR
theorem con_next : Con Tryz.prog 74 c_next := con_ex Tryz.func74 rfl
theorem next_c {t : Tr AObj} {nx wr : Nat} {K : Nat -> Prop} {s : Value} {l : List Int} {a b : Nat} {at' : Int} (hbv : BV t K s l) (hB : Byt l) (hb : l.length <= 4294967296) (ha : t.get a = some (.row [s] a BIG false 1)) (hbb : t.get b = some (.row [.int .i64 at'] b BIG false 1)) (h0 : 0 <= at') (h1 : at' <= l.length) (hnx : nx <= BIG) (hwr : wr <= BIG) : ∃ v h', c_next [.pointer (some ⟨a, 0, none⟩), .pointer (some ⟨b, 0, none⟩)] ⟨t, nx, wr⟩ = some (v, h') /\ NXpost l a b at' t nx wr v h' := by
 have hP := Fits
 have hC : CallSound Tryz.prog (tabOf [(73, c_gi)]) := tab_sound (tab_cons con_gi tab_end)
 have hBd : Byt (l.drop at'.toNat) := byt_drop hB _
 have hdl : (l.drop at'.toNat).length = l.length - at'.toNat := List.length_drop
 have hf := getI_facts hBd
 suffices key : SureK Tryz.prog ⟨t, nx, wr⟩ _ [] _ (EndR Tryz.prog _ (NXR [.pointer (some ⟨a, 0, none⟩), .pointer (some ⟨b, 0, none⟩)] ⟨t, nx, wr⟩)) by
  obtain ⟨v, h', q, c⟩ := sure_start (R := NXR) (sz := 22) Tryz.func74 rfl rfl zo key
  exact ⟨v, h', q, c K s l a b at' rfl hbv ha hbb⟩
 obtain ⟨w, bw, hsl⟩ := x_sliceB (P := Tryz.prog) (T := 23) (lo := some (.tmp 10)) (hi := none) (i := at') (j := l.length) hbv u23 T.s5 ow ow ow (fun q => by cases q) (fun _ => rfl)
 rw [List.take_of_length_le (by rw [List.length_drop]; omega)] at bw
 refine s_seq (s_region hP hC (oA ?_))
 refine oA ?_
 refine oA ?_
 refine o_done (se_seq (s_seq (s_region hP hC ?_)))
 refine os (x_load1 rfl zt T.g23 (l_all (whole_row ha rfl) rfl)) ?_
 refine os (x_load1 rfl zt T.g3 (l_all (whole_row hbb rfl) rfl)) ?_
 refine os (hsl rfl zt (fun a q => by cases q; exact zt) (fun a q => by cases q)) ?_
 refine o_call0 (wA_none rfl) rfl rfl rfl zv zd ?_
 refine ⟨_, _, (tab_hit.trans (gi_c bw.rd hBd (by rw [ok_gi, decide_eq_true ow]))), ?_⟩
 refine oM ?_
 refine os (x_extract rfl zt rfl) ?_
 refine os (x_extract rfl zt rfl) ?_
 refine os (x_extract rfl zt rfl) ?_
 refine oA ?_
 refine oA ?_
 refine oA ?_
 refine o_done (se_seq (s_seq (s_region hP hC ?_)))
 refine os (x_load1 rfl zt T.g3 (l_all (whole_row hbb rfl) rfl)) ?_
 refine oM ?_
 refine os (x_bin rfl zt zt (b_addR ow)) ?_
 refine o_stepN (wA_none rfl) rfl (y_store1 rfl zt zt rfl T.s3 hbb rfl rfl rfl) ?_
 refine o_done (se_seq (s_seq ?_))
 have hqB : nx <= BIG := by omega
 refine s_draw hP hC zr ?_
 refine dM ?_
 refine ds (x_load1 rfl zt T.g3 l_setB) ?_
 refine dM ?_
 refine ds (x_assign rfl zt) ?_
 refine ds (x_assign rfl zt) ?_
 refine ds (x_assign rfl zt) ?_
 refine d_done ⟨de_quiet (by simp only [List.all_append, List.all_cons, List.all_nil, infOf, decide_eq_true hqB, Bool.and_self]) (by show _ <= BIG; omega) (by show _ <= BIG; first | omega | (dsimp only; omega)), ?_⟩
 refine se_seq ?_
 refine s_ret ?_
 refine ⟨.inr rfl, _, (by simp only [Tryz.results74, resA, Tr.get_set, reduceIte, Nat.reduceEqDiff, Nat.reduceAdd] <;> rfl), fun K2 s2 l2 a2 b2 at2 hs2 hb2 ha2 hbb2 => ?_⟩
 cases hs2
 have e1 := Option.some.inj (ha.symm.trans ha2)
 have e2 := Option.some.inj (hbb.symm.trans hbb2)
 simp only [AObj.row.injEq, List.cons.injEq, and_true, true_and, Value.int.injEq] at e1 e2
 rw [<-e1] at hb2
 have hl2 := hbv.uniq hb2
 rw [hl2, <-e2]
 exact ⟨_, _, rfl, rfl, by rw [gp rfl], fun i hi => by rw [Tr.get_set, if_neg hi], by show _ = min wr b; omega⟩
noncomputable def c_gip := cEx Tryz.prog 27 (GLR rdI)
theorem con_gip : Con Tryz.prog 27 c_gip := con_ex Tryz.func27 rfl
theorem gip_c {t : Tr AObj} {K : Nat -> Prop} {nx wr : Nat} {s : Value} {l : List Int} (hbv : BV t K s l) (hK : ∀ i, K i -> i < nx) (hB : Byt l) (hb : l.length <= 4294967296) (hN : nx + 2 * l.length + 100 <= BIG) (hwr : wr <= BIG) : ∃ v h', c_gip [s] ⟨t, nx, wr⟩ = some (v, h') /\ GLpost rdI l t nx wr v h' := by
 have hP := Fits
 have hC : CallSound Tryz.prog (tabOf [(49, c_cp), (50, c_reader), (74, c_next)]) := tab_sound (tab_cons con_cp (tab_cons con_reader (tab_cons con_next tab_end)))
 suffices key : SureK Tryz.prog ⟨t, nx, wr⟩ _ [] _ (EndR Tryz.prog _ (GLR rdI [s] ⟨t, nx, wr⟩)) by
  obtain ⟨v, h', a, b⟩ := sure_start (R := GLR rdI) (sz := 45) Tryz.func27 rfl rfl zo key
  exact ⟨v, h', a, b K s l rfl hbv⟩
 refine s_seq (s_region hP hC (oA ?_))
 refine oA ?_
 refine oA ?_
 refine o_done (se_seq (s_seq (s_region hP hC (oM ?_))))
 refine o_call0 (wA_none rfl) rfl rfl rfl zv zd ?_
 refine ⟨_, _, (tab_hit.trans (cp_c hbv.rd hB (by rw [ok_cp, Bool.and_eq_true, decide_eq_true hb]; exact ⟨rfl, by decide⟩))), ?_⟩
 refine oM ?_
 refine os (x_extract rfl zt rfl) ?_
 refine os (x_extract rfl zt rfl) ?_
 refine os (x_extract rfl zt rfl) ?_
 refine oA ?_
 refine oA ?_
 refine oA ?_
 refine o_done (se_seq (s_seq (s_seq (s_region hP hC (oM ?_)))))
 refine os (x_bin rfl zt (by rfl) b_neq) ?_
 refine o_done (se_seq ?_)
 refine s_cond zt (fun g2 => ?_) (fun g2 => ?_)
 ·have p2 := g2; try simp only [dd] at p2
  refine s_seq (s_region hP hC (oM ?_))
  refine oA ?_
  refine oA ?_
  refine oA ?_
  refine o_done (se_seq ?_)
  refine s_ret ?_
  refine se_seq_ret ?_
  refine ⟨.inr rfl, _, (by simp only [Tryz.results27, resA, Tr.get_set, reduceIte, Nat.reduceEqDiff, Nat.reduceAdd, g2] <;> rfl), fun K' s2 l2 hs2 hb2 => ?_⟩
  cases hs2
  have hl2 := hbv.uniq hb2
  rw [hl2]
  have hR : getL rdI l = _ := getL_no ow
  refine ⟨_, _, _, rfl, Fr.refl, _, by rw [hR]; rfl, by rw [hR]; exact ⟨_, .start⟩⟩
 ·have p2 := g2; try simp only [dd] at p2
  refine s_skip (se_seq (s_seq (s_region hP hC (oM ?_))))
  refine oM ?_
  have hz : cntE l 1 = 0 := by omega
  have hc := cnt_facts hB zd hz
  rw [Int.mul_one] at hc
  refine o_callR (tab_missR zd (tab_hitR (reader_c hbv.one))) (wA_none rfl) rfl rfl rfl zv zd (fun v2 h2 hR2 => ?_)
  obtain ⟨t2, rfl, rfl, hg0, hg1, hx2⟩ := hR2
  refine oA ?_
  refine o_done (se_seq (s_seq (s_region hP hC (oA ?_))))
  refine o_done (se_seq (s_seq (s_seq (s_region hP hC (oM ?_)))))
  refine os (x_move rfl (by rfl)) ?_
  refine o_done (se_seq (s_block ?_))
  refine s_loop (α := Int × List Value × Int) (fun z s' => ∃ v e t1 nx1 wq1 S, s' = ⟨e, 45, ⟨t1, nx1, wq1⟩⟩ /\ e.get 8 = some (nextF nx (nx + 1)) /\ e.get 25 = some (.int .i64 (getI l).1) /\ e.get 6 = some (.int .i64 z.2.2) /\ e.get 9 = some (v) /\ e.get 26 = some (.int .i64 z.1) /\ 0 <= z.1 /\ z.1 <= (getI l).1 /\ 0 <= z.2.2 /\ z.2.2 <= l.length /\ z.2.1.length = z.1 /\ rdL rdI l ((getI l).1 - z.1).toNat z.2.2 z.2.1 = getL rdI l /\ AccP t1 (nx + 2) nx1 S 1 v z.2.1.length z.2.1 /\ t1.get nx = some (.row [s] nx BIG false 1) /\ t1.get (nx + 1) = some (.row [.int .i64 z.2.2] (nx + 1) BIG false 1) /\ nx + 2 <= nx1 /\ nx1 <= nx + 2 + 2 * z.2.1.length /\ min wr nx <= wq1 /\ wq1 <= wr /\ (∀ id, id < nx -> t1.get id = t.get id)) (fun z => ((getI l).1 - z.1).toNat) (0, [], (getI l).2.1) ⟨_, _, _, _, _, _, rfl, zh, zh, zh, zh, zh, by dsimp only; omega, by dsimp only; omega, by dsimp only; omega, by dsimp only; omega, rfl, getL_yes hz, .start, hg0, hg1, by omega, by omega, by omega, by omega, hx2⟩ ?_
  rintro ⟨k, acc, at'⟩ s' ⟨v, e, t1, nx1, wq1, S, rfl, heb8, heb25, heb6, heb9, heb26, k0, k1, p0, p1, hal, hD, aA, hb0, hb1, n0, nb, w0, w1, hx1⟩
  dsimp only at heb6 heb26 k0 k1 p0 p1 hal hD aA hb1 nb
  have noA := aA.no
  have hBd : Byt (l.drop at'.toNat) := byt_drop hB _
  have hdl : (l.drop at'.toNat).length = l.length - at'.toNat := List.length_drop
  refine s_seq (s_region hP hC ?_)
  refine os (x_bin rfl za za b_lss) ?_
  refine o_done (se_seq (s_seq ?_))
  refine s_cond za (fun g4 => ?_) (fun g4 => ?_)
  ·have p4 := g4; try simp only [dd] at p4
   refine s_skip (se_seq (s_seq (s_block (s_seq (s_region hP hC (oM ?_))))))
   refine o_callRC (tab_missR zd (tab_missR zd (tab_hitR (next_c (nx := nx1) (wr := wq1) (hbv.keep (fun i q => hx1 i (hK i q))) hB hb hb0 hb1 p0 p1 ow ow)))) (wA_none rfl) rfl rfl rfl za ze zd (fun v3 h3 hR3 => ?_)
   obtain ⟨t3, w3, rfl, rfl, hg3, hx3, hw3⟩ := hR3
   have hx3' : ∀ i, i < nx + 1 -> t3.get i = t1.get i := fun i hi => hx3 i ow
   have aB := aA.keep (t' := t3) (Nat.le_refl _) (fun x hx => hx3 x (by have := aA.bnd x hx; omega))
   have noB := aB.no
   refine oM ?_
   refine os (x_extract rfl za rfl) ?_
   refine os (x_extract rfl za rfl) ?_
   refine os (x_extract rfl za rfl) ?_
   refine oA ?_
   refine oA ?_
   refine oA ?_
   refine o_done (se_seq (s_seq (s_seq (s_region hP hC (oM ?_)))))
   refine os (x_bin rfl za (by rfl) b_neq) ?_
   refine o_done (se_seq ?_)
   refine s_cond za (fun g6 => ?_) (fun g6 => ?_)
   ·have p6 := g6; try simp only [dd] at p6
    refine s_seq (s_region hP hC (oM ?_))
    refine oA ?_
    refine oA ?_
    refine oA ?_
    refine o_done (se_seq ?_)
    refine s_ret ?_
    refine se_seq_ret ?_
    refine se_block_ret ?_
    refine se_seq_ret ?_
    refine se_loop_ret ?_
    refine se_block_ret ?_
    refine se_seq_ret ?_
    refine ⟨.inr rfl, _, (by simp only [Tryz.results27, resA, Tr.get_set, reduceIte, Nat.reduceEqDiff, Nat.reduceAdd, heb8, heb25, heb6, heb9, heb26, g4, g6] <;> rfl), fun K' s2 l2 hs2 hb2 => ?_⟩
    cases hs2
    have hl2 := hbv.uniq hb2
    rw [hl2]
    first
     | (have hR : getL rdI l = _ := rdL_end hD ow; exact ⟨_, _, _, rfl, ⟨by show nx <= nx1; omega, by show nx1 <= nx + (2 * l.length + 10); omega, by show min wr nx <= _; omega, by show _ <= wr; omega, fun id (hid : id < nx) => hx1 id hid⟩, _, by rw [hR]; rfl, by rw [hR]; exact ⟨_, AccP.low aA (Nat.le_add_right _ 2)⟩⟩)
     | (have hR : getL rdI l = _ := rdL_no hD ow (by assumption); exact ⟨_, _, _, rfl, ⟨by show nx <= nx1; omega, by show nx1 <= nx + (2 * l.length + 10); omega, by show min wr nx <= _; omega, by show _ <= wr; omega, fun id (hid : id < nx) => (hx3 id ow).trans (hx1 id hid)⟩, _, by rw [hR]; rfl, by rw [hR]; exact ⟨_, .start⟩⟩)
   ·have p6 := g6; try simp only [dd] at p6
    refine s_skip (se_seq (s_region hP hC (oM ?_)))
    refine oM ?_
    have he : (rdI (l.drop at'.toNat)).2.2 = 0 := by show (getI _).2.2 = 0; omega
    have hu := rdI_ok.at' _ hBd he
    rw [List.length_drop] at hu
    refine os (y_bsliceV rfl za rfl u22 T.s3 T.z3 rfl rfl) ?_
    refine o_appS aB ow (fun x hs => by rw [Tr.get_set, if_neg (by have := aB.bnd x hs; omega)]) ow (wA_none rfl) rfl rfl rfl ze rfl rfl zr (cells_row u22 T.s3 (l_all (whole_row (by (repeat (first | rw [gn ow] | rw [hx3' _ ow] | rw [hx1 _ ow])) <;> first | rfl | assumption | (rw [gp ow]; done) | (rw [gp ow]; rfl)) rfl) rfl)) u22 T.i22 zd rfl ow (by unfold BIG; omega) rfl zd zd zd (fun v1 t1 w1 b11 b21 a1 k1 => ?_)
    refine oM ?_
    refine oA ?_
    refine oA ?_
    refine o_done (se_block (se_seq (s_region hP hC ?_)))
    refine os (x_bin rfl za (by rfl) b_add) ?_
    refine oM ?_
    refine o_done ?_
    refine se_loop ?_
    have hw1 : IntKind.i64.wrap (k + 1) = k + 1 := wr1 ow ow
    have e1 : (acc ++ [(rdI (l.drop at'.toNat)).1]).length = acc.length + 1 := by rw [List.length_append]; rfl
    have hS0 : ∀ j, j < nx + 2 -> t1.get j = t3.get j := fun j hj => by rw [k1 j (noB j hj) ow, gn ow]
    refine ⟨(k + 1, acc ++ [(rdI (l.drop at'.toNat)).1], at' + (rdI (l.drop at'.toNat)).2.1), ⟨v1, _, _, _, _, _, rfl, za, za, za, za, (by simp only [Tr.get_set, reduceIte, Nat.reduceEqDiff, Nat.reduceAdd, hw1, heb8, heb25, heb6, heb9, heb26, g4, g6] <;> rfl), by dsimp only; omega, by dsimp only; omega, by dsimp only; omega, by dsimp only; omega, by dsimp only; rw [e1]; omega, rdL_yes hD ow he, by dsimp only; rw [e1]; exact a1, by rw [hS0 _ ow, hx3 _ ow]; exact hb0, by rw [hS0 _ ow]; exact hg3, by omega, by dsimp only; rw [e1]; omega, by omega, by omega, fun id hid => by rw [hS0 _ ow, hx3' _ ow, hx1 _ hid]⟩, by dsimp only; omega⟩
  ·have p4 := g4; try simp only [dd] at p4
   refine s_exit ?_
   refine se_seq_exit ?_
   refine se_loop_exit ?_
   refine se_block_eq (se_seq (s_seq (s_region hP hC (oM ?_))))
   refine oM ?_
   refine oA ?_
   refine oA ?_
   refine oA ?_
   refine o_done (se_seq ?_)
   refine s_ret ?_
   refine ⟨.inr rfl, _, (by simp only [Tryz.results27, resA, Tr.get_set, reduceIte, Nat.reduceEqDiff, Nat.reduceAdd, heb8, heb25, heb6, heb9, heb26, g4] <;> rfl), fun K' s2 l2 hs2 hb2 => ?_⟩
   cases hs2
   have hl2 := hbv.uniq hb2
   rw [hl2]
   first
    | (have hR : getL rdI l = _ := rdL_end hD ow; exact ⟨_, _, _, rfl, ⟨by show nx <= nx1; omega, by show nx1 <= nx + (2 * l.length + 10); omega, by show min wr nx <= _; omega, by show _ <= wr; omega, fun id (hid : id < nx) => hx1 id hid⟩, _, by rw [hR]; rfl, by rw [hR]; exact ⟨_, AccP.low aA (Nat.le_add_right _ 2)⟩⟩)
    | (have hR : getL rdI l = _ := rdL_no hD ow (by assumption); exact ⟨_, _, _, rfl, ⟨by show nx <= nx1; omega, by show nx1 <= nx + (2 * l.length + 10); omega, by show min wr nx <= _; omega, by show _ <= wr; omega, fun id (hid : id < nx) => (hx3 id ow).trans (hx1 id hid)⟩, _, by rw [hR]; rfl, by rw [hR]; exact ⟨_, .start⟩⟩)
end Go.Proofs.YtfgmplbclpadbaaGreatDoor
namespace Go.Proofs.YtfgmplbclpadbaaGreatDoor
open Go Go.AM
theorem BV.some' {t : Tr AObj} {K : Nat -> Prop} {s : Value} {l : List Int} (h : BV t K s l) (h0 : 0 < l.length) : ∃ id off c, s = .slice (some ⟨id, off, none⟩) l.length c /\ ∀ t' nx' wr', (∀ i, K i -> t'.get i = t.get i) -> loadC ⟨t', nx', wr'⟩ id off l.length = some (bys l) := by
 rcases h with ⟨rfl, _⟩ | ⟨id, off, q, rfl, hl⟩
 ·simp at h0
 ·exact ⟨id, off, _, rfl, hl⟩
theorem x_s2ap {P : Program} {call : Call'} {e : Tr Value} {h : AH} {o : Oper} {T el : TypeId} {x : Operand} {id off n len c : Nat} (ho : o.op = .sliceToArrayPointer T x) (hx : ev e x = some (.slice (some ⟨id, off, none⟩) len c)) (hu : P.underlying T = some (.array n el)) (h0 : 0 < n) (h1 : n <= len) : doOp P call e h o = some (.pointer (some ⟨id, off, none⟩), h) := by
 rw [do_op (by rw [ho]; simp), ho]
 simp only [aop, hx, hu, if_pos (And.intro h0 h1)]
def dgC (l : List Int) (k : Nat) : List Value := bys ((l.drop (getI l).2.1.toNat).take (16 * k))
def dgN (l : List Int) : Nat := if cntE l 16 = 0 then (getI l).1.toNat else 0
def dgA (l : List Int) : Int := if cntE l 16 = 0 then (getI l).2.1 + 16 * (getI l).1 else 0
def GDpost (l : List Int) (t : Tr AObj) (nx wr : Nat) (v : Value) (h' : AH) : Prop := ∃ t' nx' wr', h' = ⟨t', nx', wr'⟩ /\ Fr t nx wr t' nx' wr' (3 * l.length + 10) /\ ∃ w, v = .tuple ⟨[w, .int .i64 (dgA l), .int .i64 (cntE l 16)]⟩ /\ ∃ S, AccP t' nx nx' S 16 w (dgN l) (dgC l (dgN l))
def GDR : List Value -> AH -> Value -> AH -> Prop := fun args h v h' => ∀ K s l, args = [s] -> BV h.t K s l -> GDpost l h.t h.next h.wr v h'
section
variable {l : List Int} {k : Int}
theorem dgC_0 : dgC l 0 = [] := by unfold dgC; rw [Nat.mul_zero, List.take_zero]; rfl
theorem dgC_len (h0 : 0 <= k) (h1 : (getI l).2.1 + 16 * k <= l.length) (h2 : 0 <= (getI l).2.1) : (dgC l k.toNat).length = k.toNat * 16 := by
 unfold dgC
 rw [bys_len, List.length_take, List.length_drop]
 omega
theorem dgC_next (h0 : 0 <= k) (h2 : 0 <= (getI l).2.1) : dgC l (k + 1).toNat = dgC l k.toNat ++ bys ((l.drop ((getI l).2.1 + 16 * k).toNat).take 16) := by
 unfold dgC
 rw [<-bys_append]
 congr 1
 rw [show 16 * (k + 1).toNat = 16 * k.toNat + 16 by omega, List.take_add, List.drop_drop, show (getI l).2.1.toNat + 16 * k.toNat = ((getI l).2.1 + 16 * k).toNat by omega]
theorem dgN_no (h : ¬ cntE l 16 = 0) : dgN l = 0 /\ dgA l = 0 := by unfold dgN dgA; rw [if_neg h, if_neg h]; exact ⟨rfl, rfl⟩
theorem dgN_yes (h : cntE l 16 = 0) : dgN l = (getI l).1.toNat /\ dgA l = (getI l).2.1 + 16 * (getI l).1 := by unfold dgN dgA; rw [if_pos h, if_pos h]; exact ⟨rfl, rfl⟩
end
end Go.Proofs.YtfgmplbclpadbaaGreatDoor
namespace Go.Proofs.YtfgmplbclpadbaaGreatDoor
open Go.AM
set_option maxRecDepth 100000
set_option maxHeartbeats 1000000
set_option maxHeartbeats 8000000
noncomputable def c_gdp := cEx Tryz.prog 30 GDR
theorem con_gdp : Con Tryz.prog 30 c_gdp := con_ex Tryz.func30 rfl
theorem gdp_c {t : Tr AObj} {K : Nat -> Prop} {nx wr : Nat} {s : Value} {l : List Int} (hbv : BV t K s l) (hK : ∀ i, K i -> i < nx) (hB : Byt l) (hb : l.length <= 4294967296) (hN : nx + 3 * l.length + 100 <= BIG) (hwr : wr <= BIG) : ∃ v h', c_gdp [s] ⟨t, nx, wr⟩ = some (v, h') /\ GDpost l t nx wr v h' := by
 have hP := Fits
 have hC : CallSound Tryz.prog (tabOf [(49, c_cp)]) := tab_sound (tab_cons con_cp tab_end)
 suffices key : SureK Tryz.prog ⟨t, nx, wr⟩ _ [] _ (EndR Tryz.prog _ (GDR [s] ⟨t, nx, wr⟩)) by
  obtain ⟨v, h', a, b⟩ := sure_start (R := GDR) (sz := 36) Tryz.func30 rfl rfl zo key
  exact ⟨v, h', a, b K s l rfl hbv⟩
 refine s_seq (s_region hP hC (oA ?_))
 refine oA ?_
 refine oA ?_
 refine o_done (se_seq (s_seq (s_region hP hC (oM ?_))))
 refine o_call0 (wA_none rfl) rfl rfl rfl zv zd ?_
 refine ⟨_, _, (tab_hit.trans (cp_c hbv.rd hB (by rw [ok_cp, Bool.and_eq_true, decide_eq_true hb]; exact ⟨rfl, by decide⟩))), ?_⟩
 refine oM ?_
 refine os (x_extract rfl zt rfl) ?_
 refine os (x_extract rfl zt rfl) ?_
 refine os (x_extract rfl zt rfl) ?_
 refine oA ?_
 refine oA ?_
 refine oA ?_
 refine o_done (se_seq (s_seq (s_seq (s_region hP hC (oM ?_)))))
 refine os (x_bin rfl zt (by rfl) b_neq) ?_
 refine o_done (se_seq ?_)
 refine s_cond zt (fun g2 => ?_) (fun g2 => ?_)
 ·have p2 := g2; try simp only [dd] at p2
  refine s_seq (s_region hP hC (oM ?_))
  refine oA ?_
  refine oA ?_
  refine oA ?_
  refine o_done (se_seq ?_)
  refine s_ret ?_
  refine se_seq_ret ?_
  refine ⟨.inr rfl, _, (by simp only [Tryz.results30, resA, Tr.get_set, reduceIte, Nat.reduceEqDiff, Nat.reduceAdd, g2] <;> rfl), fun K' s2 l2 hs2 hb2 => ?_⟩
  cases hs2
  have hl2 := hbv.uniq hb2
  rw [hl2]
  have hR := dgN_no (l := l) ow
  refine ⟨_, _, _, rfl, Fr.refl, _, by rw [hR.2]; rfl, by rw [hR.1, dgC_0]; exact ⟨_, .start⟩⟩
 ·have p2 := g2; try simp only [dd] at p2
  refine s_skip (se_seq (s_seq ?_))
  have hz : cntE l 16 = 0 := by omega
  have hc := cnt_facts hB zd hz
  refine s_region hP hC (oA ?_)
  refine o_done (se_seq (s_seq (s_seq (s_region hP hC (oM ?_)))))
  refine os (x_move rfl (by rfl)) ?_
  refine o_done (se_seq (s_block ?_))
  refine s_loop (α := Int) (fun k s' => ∃ v e t1 nx1 wq1 S, s' = ⟨e, 36, ⟨t1, nx1, wq1⟩⟩ /\ e.get 0 = some (s) /\ e.get 18 = some (.int .i64 (getI l).1) /\ e.get 6 = some (.int .i64 ((getI l).2.1 + 16 * k)) /\ e.get 8 = some (v) /\ e.get 19 = some (.int .i64 k) /\ 0 <= k /\ k <= (getI l).1 /\ AccP t1 nx nx1 S 16 v k.toNat (dgC l k.toNat) /\ nx <= nx1 /\ nx1 <= nx + 3 * k.toNat /\ min wr nx <= wq1 /\ wq1 <= wr /\ (∀ id, id < nx -> t1.get id = t.get id)) (fun k => ((getI l).1 - k).toNat) 0 ⟨_, _, _, _, _, _, rfl, zh, zh, by rw [show (getI l).2.1 + 16 * 0 = (getI l).2.1 by omega]; simp only [Tr.get_set, reduceIte, Nat.reduceEqDiff, Nat.reduceAdd, g2] <;> rfl, zh, zh, by omega, by omega, by rw [Int.toNat_zero, dgC_0]; exact .start, by omega, by omega, by omega, by omega, fun _ _ => rfl⟩ ?_
  rintro k s' ⟨v, e, t1, nx1, wq1, S, rfl, heb0, heb18, heb6, heb8, heb19, k0, k1, aA, n0, nb, w0, w1, hx1⟩
  have noA := aA.no
  refine s_seq (s_region hP hC ?_)
  refine os (x_bin rfl za za b_lss) ?_
  refine o_done (se_seq (s_seq ?_))
  refine s_cond za (fun g4 => ?_) (fun g4 => ?_)
  ·have p4 := g4; try simp only [dd] at p4
   refine s_skip (se_seq (s_seq (s_block (s_seq (s_region hP hC ?_)))))
   obtain ⟨w, bw, hsl⟩ := x_sliceB (P := Tryz.prog) (T := 23) (lo := some (.tmp 23)) (hi := some (.tmp 25)) (i := (getI l).2.1 + 16 * k) (j := (getI l).2.1 + 16 * k + 16) hbv u23 T.s5 ow ow ow (fun q => by cases q) (fun q => by cases q)
   rw [show ((getI l).2.1 + 16 * k + 16).toNat - ((getI l).2.1 + 16 * k).toNat = 16 by omega] at bw
   have hl16 : ((l.drop ((getI l).2.1 + 16 * k).toNat).take 16).length = 16 := by rw [List.length_take, List.length_drop]; omega
   obtain ⟨idw, ofw, cw, rfl, hld⟩ := BV.some' bw ow
   rw [hl16] at hld
   have hb16 : (bys ((l.drop ((getI l).2.1 + 16 * k).toNat).take 16)).length = 16 := by rw [bys_len]; exact hl16
   have haL := dgC_len (l := l) k0 ow ow
   refine oM ?_
   refine oM ?_
   refine oM ?_
   refine oM ?_
   refine os (x_bin rfl za (by rfl) (b_addR ow)) ?_
   refine os (hsl rfl za (fun a q => by cases q; exact za) (fun a q => by cases q; exact za)) ?_
   refine os (x_s2ap rfl za u25 zd ow) ?_
   refine os (x_loadA rfl za T.g25 T.s25 (hld _ _ _ (fun i q => hx1 i (hK i q)))) ?_
   refine os (y_bsliceA rfl za u42 T.s25 T.z25 zd rfl rfl hb16 zd) ?_
   refine o_appS aA ow (fun x hs => by rw [Tr.get_set, if_neg (by have := aA.bnd x hs; omega)]) ow (wA_none rfl) rfl rfl rfl ze rfl rfl zr (cells_row u42 T.s25 (l_all (whole_row (by (repeat (first | rw [gn ow] | rw [hx1 _ ow])) <;> first | rfl | assumption | (rw [gp ow]; done) | (rw [gp ow]; rfl)) rfl) (by rw [Nat.one_mul]; exact hb16.symm))) u42 T.i42 zd (by rw [Nat.one_mul]; exact hb16) ow (by unfold BIG; omega) (bys_one _) zd zd zd (fun v1 t1 w1 b11 b21 a1 k1 => ?_)
   refine oA ?_
   refine o_done (se_seq (s_region hP hC (oM ?_)))
   refine os (x_bin rfl za (by rfl) (b_addR ow)) ?_
   refine oA ?_
   refine o_done (se_block (se_seq (s_region hP hC ?_)))
   refine os (x_bin rfl za (by rfl) b_add) ?_
   refine oM ?_
   refine o_done ?_
   refine se_loop ?_
   have hw1 : IntKind.i64.wrap (k + 1) = k + 1 := wr1 ow ow
   have e1 : (k + 1).toNat = k.toNat + 1 := by omega
   refine ⟨k + 1, ⟨v1, _, _, _, _, _, rfl, za, za, by rw [show (getI l).2.1 + 16 * (k + 1) = (getI l).2.1 + 16 * k + 16 by omega]; simp only [Tr.get_set, reduceIte, Nat.reduceEqDiff, Nat.reduceAdd, heb0, heb18, heb6, heb8, heb19, g4] <;> rfl, za, (by simp only [Tr.get_set, reduceIte, Nat.reduceEqDiff, Nat.reduceAdd, hw1, heb0, heb18, heb6, heb8, heb19, g4] <;> rfl), by omega, by omega, by rw [dgC_next k0 ow, e1]; exact a1, by omega, by omega, by omega, by omega, fun id hid => by (repeat (first | rw [gn ow] | rw [k1 _ (noA _ ow) ow] | rw [hx1 _ ow])) <;> first | rfl | assumption | (rw [gp ow]; done) | (rw [gp ow]; rfl)⟩, by omega⟩
  ·have p4 := g4; try simp only [dd] at p4
   refine s_exit ?_
   refine se_seq_exit ?_
   refine se_loop_exit ?_
   refine se_block_eq (se_seq (s_seq (s_region hP hC (oM ?_))))
   refine oM ?_
   refine oA ?_
   refine oA ?_
   refine oA ?_
   refine o_done (se_seq ?_)
   refine s_ret ?_
   refine ⟨.inr rfl, _, (by simp only [Tryz.results30, resA, Tr.get_set, reduceIte, Nat.reduceEqDiff, Nat.reduceAdd, heb0, heb18, heb6, heb8, heb19, g4] <;> rfl), fun K' s2 l2 hs2 hb2 => ?_⟩
   cases hs2
   have hl2 := hbv.uniq hb2
   rw [hl2]
   have hR := dgN_yes hz
   obtain rfl : k = (getI l).1 := by omega
   exact ⟨_, _, _, rfl, ⟨by show nx <= nx1; omega, by show nx1 <= nx + (3 * l.length + 10); omega, by show min wr nx <= wq1; omega, by show wq1 <= wr; omega, fun id (hid : id < nx) => hx1 id hid⟩, _, by rw [hR.2, hz]; rfl, by rw [hR.1]; exact ⟨_, AccP.low aA (Nat.le_refl _)⟩⟩
end Go.Proofs.YtfgmplbclpadbaaGreatDoor
namespace Go.Proofs.YtfgmplbclpadbaaGreatDoor
open Go.AM
set_option maxRecDepth 100000
set_option maxHeartbeats 1000000
set_option maxHeartbeats 4000000
def LPost (k b n : Nat) (d : List Value) (a e : Int) (t : Tr AObj) (nx wr : Nat) (v : Value) (h' : AH) : Prop := ∃ t' nx' wr', h' = ⟨t', nx', wr'⟩ /\ Fr t nx wr t' nx' wr' b /\ ∃ w, v = .tuple ⟨[w, .int .i64 a, .int .i64 e]⟩ /\ ∃ S, AccP t' nx nx' S k w n d
def ptE (e : Int) (n : Nat) (m : Int) : Int := if e = 0 then (if (n : Int) = m then 0 else 2) else e
theorem ptE_no {e m : Int} {n : Nat} (h : ¬ e = 0) : ptE e n m = e := if_neg h
theorem ptE_ok {e m : Int} {n : Nat} (h : e = 0) (h1 : (n : Int) = m) : ptE e n m = 0 := by unfold ptE; rw [if_pos h, if_pos h1]
theorem ptE_ne {e m : Int} {n : Nat} (h : e = 0) (h1 : ¬ (n : Int) = m) : ptE e n m = 2 := by unfold ptE; rw [if_pos h, if_neg h1]
def R_pti : List Value -> AH -> Value -> AH -> Prop := fun args h v h' => ∀ K s l m, args = [.func (.func 27) ⟨[]⟩ ⟨[]⟩, s, .int .i64 m] -> BV h.t K s l -> LPost 1 (2 * l.length + 10) (getL rdI l).1.length (getL rdI l).1 (getL rdI l).2.1 (ptE (getL rdI l).2.2 (getL rdI l).1.length m) h.t h.next h.wr v h'
noncomputable def c_pti := cEx Tryz.prog 26 R_pti
theorem con_pti : Con Tryz.prog 26 c_pti := con_ex Tryz.func26 rfl
theorem pti_c {t : Tr AObj} {K : Nat -> Prop} {nx wr : Nat} {s : Value} {l : List Int} {m : Int} (hbv : BV t K s l) (hK : ∀ i, K i -> i < nx) (hB : Byt l) (hb : l.length <= 4294967296) (hN : nx + 3 * l.length + 100 <= BIG) (hwr : wr <= BIG) : ∃ v h', c_pti [.func (.func 27) ⟨[]⟩ ⟨[]⟩, s, .int .i64 m] ⟨t, nx, wr⟩ = some (v, h') /\ LPost 1 (2 * l.length + 10) (getL rdI l).1.length (getL rdI l).1 (getL rdI l).2.1 (ptE (getL rdI l).2.2 (getL rdI l).1.length m) t nx wr v h' := by
 have hP := Fits
 have hC : CallSound Tryz.prog (tabOf [(27, c_gip)]) := tab_sound (tab_cons con_gip tab_end)
 suffices key : SureK Tryz.prog ⟨t, nx, wr⟩ _ [] _ (EndR Tryz.prog _ (R_pti [.func (.func 27) ⟨[]⟩ ⟨[]⟩, s, .int .i64 m] ⟨t, nx, wr⟩)) by
  obtain ⟨v, h', q, c⟩ := sure_start (R := R_pti) (sz := 30) Tryz.func26 rfl rfl zo key
  exact ⟨v, h', q, c K s l m rfl hbv⟩
 refine s_seq (s_region hP hC (oA ?_))
 refine oA ?_
 refine oA ?_
 refine o_done (se_seq (s_seq (s_region hP hC (oM ?_))))
 refine oM ?_
 refine o_callRC (tab_hitR (gip_c hbv hK hB hb ow hwr)) (wA_none rfl) rfl rfl rfl zt zv zd (fun v1 h1 hR1 => ?_)
 obtain ⟨t1, nx1, wq1, rfl, hf1, w, rfl, S1, aD⟩ := hR1
 have rD := aD.rds
 have hx1 := hf1.same
 refine oM ?_
 refine os (x_extract rfl zt rfl) ?_
 refine os (x_extract rfl zt rfl) ?_
 refine os (x_extract rfl zt rfl) ?_
 refine oA ?_
 refine oA ?_
 refine oA ?_
 refine o_done (se_seq (s_seq (s_seq (s_region hP hC (oM ?_)))))
 refine os (x_bin rfl zt (by rfl) b_eql) ?_
 refine oM ?_
 refine o_guard rfl rfl (by (repeat (first | rw [gn ow] | rw [hx1 _ ow])) <;> first | rfl | assumption | (rw [gp ow]; done) | (rw [gp ow]; rfl)) (fun g2 => ?_) (fun g2 => ?_)
 ·have p2 := g2; try simp only [dd] at p2
  refine o_step (wA_on rfl rfl zw) rfl (x_move rfl zt) zd ?_
  refine o_step (wA_on rfl rfl zw) rfl (x_lenD rD rfl rfl zv rfl u22) zd ?_
  refine o_step (wA_on rfl rfl zw) rfl (x_move rfl zt) zd ?_
  refine o_step (wA_on rfl rfl zw) rfl (x_bin rfl zt zt b_neq) zd ?_
  refine os (x_pick rfl zw zb) ?_
  refine o_done (se_seq ?_)
  refine s_cond zt (fun g4 => ?_) (fun g4 => ?_)
  ·have p4 := g4; try simp only [dd] at p4
   refine s_region hP hC (oA ?_)
   refine o_done (se_seq (s_seq (s_region hP hC (oM ?_))))
   refine oM ?_
   refine oM ?_
   refine oA ?_
   refine oA ?_
   refine oA ?_
   refine o_done (se_seq ?_)
   refine s_ret ?_
   refine ⟨.inr rfl, _, (by simp only [Tryz.results26, resA, Tr.get_set, reduceIte, Nat.reduceEqDiff, Nat.reduceAdd, g2, g4] <;> rfl), fun K' s2 l2 m2 hs2 hb2 => ?_⟩
   cases hs2
   have hl2 := hbv.uniq hb2
   rw [hl2]
   first
    | (rw [ptE_no ow]; exact ⟨_, _, _, rfl, hf1, _, rfl, S1, aD⟩)
    | (rw [ptE_ne ow ow]; exact ⟨_, _, _, rfl, hf1, _, rfl, S1, aD⟩)
    | (rw [ptE_ok ow ow]; exact ⟨_, _, _, rfl, hf1, _, by rw [show (getL rdI l).2.2 = 0 by omega]; rfl, S1, aD⟩)
  ·have p4 := g4; try simp only [dd] at p4
   refine s_skip (se_seq (s_seq (s_region hP hC (oM ?_))))
   refine oM ?_
   refine oM ?_
   refine oA ?_
   refine oA ?_
   refine oA ?_
   refine o_done (se_seq ?_)
   refine s_ret ?_
   refine ⟨.inr rfl, _, (by simp only [Tryz.results26, resA, Tr.get_set, reduceIte, Nat.reduceEqDiff, Nat.reduceAdd, g2, g4] <;> rfl), fun K' s2 l2 m2 hs2 hb2 => ?_⟩
   cases hs2
   have hl2 := hbv.uniq hb2
   rw [hl2]
   first
    | (rw [ptE_no ow]; exact ⟨_, _, _, rfl, hf1, _, rfl, S1, aD⟩)
    | (rw [ptE_ne ow ow]; exact ⟨_, _, _, rfl, hf1, _, rfl, S1, aD⟩)
    | (rw [ptE_ok ow ow]; exact ⟨_, _, _, rfl, hf1, _, by rw [show (getL rdI l).2.2 = 0 by omega]; rfl, S1, aD⟩)
 ·have p2 := g2; try simp only [dd] at p2
  refine oS ?_
  refine oS ?_
  refine oS ?_
  refine oS ?_
  refine os (x_pick rfl zw zb) ?_
  refine o_done (se_seq ?_)
  refine s_condF zt ?_
  refine s_skip (se_seq (s_seq (s_region hP hC (oM ?_))))
  refine oM ?_
  refine oM ?_
  refine oA ?_
  refine oA ?_
  refine oA ?_
  refine o_done (se_seq ?_)
  refine s_ret ?_
  refine ⟨.inr rfl, _, (by simp only [Tryz.results26, resA, Tr.get_set, reduceIte, Nat.reduceEqDiff, Nat.reduceAdd, g2] <;> rfl), fun K' s2 l2 m2 hs2 hb2 => ?_⟩
  cases hs2
  have hl2 := hbv.uniq hb2
  rw [hl2]
  first
   | (rw [ptE_no ow]; exact ⟨_, _, _, rfl, hf1, _, rfl, S1, aD⟩)
   | (rw [ptE_ne ow ow]; exact ⟨_, _, _, rfl, hf1, _, rfl, S1, aD⟩)
   | (rw [ptE_ok ow ow]; exact ⟨_, _, _, rfl, hf1, _, by rw [show (getL rdI l).2.2 = 0 by omega]; rfl, S1, aD⟩)
def R_pts : List Value -> AH -> Value -> AH -> Prop := fun args h v h' => ∀ K s l m, args = [.func (.func 33) ⟨[]⟩ ⟨[]⟩, s, .int .i64 m] -> BV h.t K s l -> LPost 1 (2 * l.length + 10) (getL rdS l).1.length (getL rdS l).1 (getL rdS l).2.1 (ptE (getL rdS l).2.2 (getL rdS l).1.length m) h.t h.next h.wr v h'
noncomputable def c_pts := cEx Tryz.prog 32 R_pts
theorem con_pts : Con Tryz.prog 32 c_pts := con_ex Tryz.func32 rfl
theorem pts_c {t : Tr AObj} {K : Nat -> Prop} {nx wr : Nat} {s : Value} {l : List Int} {m : Int} (hbv : BV t K s l) (hK : ∀ i, K i -> i < nx) (hB : Byt l) (hb : l.length <= 4294967296) (hN : nx + 3 * l.length + 100 <= BIG) (hwr : wr <= BIG) : ∃ v h', c_pts [.func (.func 33) ⟨[]⟩ ⟨[]⟩, s, .int .i64 m] ⟨t, nx, wr⟩ = some (v, h') /\ LPost 1 (2 * l.length + 10) (getL rdS l).1.length (getL rdS l).1 (getL rdS l).2.1 (ptE (getL rdS l).2.2 (getL rdS l).1.length m) t nx wr v h' := by
 have hP := Fits
 have hC : CallSound Tryz.prog (tabOf [(33, c_gsp)]) := tab_sound (tab_cons con_gsp tab_end)
 suffices key : SureK Tryz.prog ⟨t, nx, wr⟩ _ [] _ (EndR Tryz.prog _ (R_pts [.func (.func 33) ⟨[]⟩ ⟨[]⟩, s, .int .i64 m] ⟨t, nx, wr⟩)) by
  obtain ⟨v, h', q, c⟩ := sure_start (R := R_pts) (sz := 30) Tryz.func32 rfl rfl zo key
  exact ⟨v, h', q, c K s l m rfl hbv⟩
 refine s_seq (s_region hP hC (oA ?_))
 refine oA ?_
 refine oA ?_
 refine o_done (se_seq (s_seq (s_region hP hC (oM ?_))))
 refine oM ?_
 refine o_callRC (tab_hitR (gsp_c hbv hK hB hb ow hwr)) (wA_none rfl) rfl rfl rfl zt zv zd (fun v1 h1 hR1 => ?_)
 obtain ⟨t1, nx1, wq1, rfl, hf1, w, rfl, S1, aD⟩ := hR1
 have rD := aD.rds
 have hx1 := hf1.same
 refine oM ?_
 refine os (x_extract rfl zt rfl) ?_
 refine os (x_extract rfl zt rfl) ?_
 refine os (x_extract rfl zt rfl) ?_
 refine oA ?_
 refine oA ?_
 refine oA ?_
 refine o_done (se_seq (s_seq (s_seq (s_region hP hC (oM ?_)))))
 refine os (x_bin rfl zt (by rfl) b_eql) ?_
 refine oM ?_
 refine o_guard rfl rfl (by (repeat (first | rw [gn ow] | rw [hx1 _ ow])) <;> first | rfl | assumption | (rw [gp ow]; done) | (rw [gp ow]; rfl)) (fun g2 => ?_) (fun g2 => ?_)
 ·have p2 := g2; try simp only [dd] at p2
  refine o_step (wA_on rfl rfl zw) rfl (x_move rfl zt) zd ?_
  refine o_step (wA_on rfl rfl zw) rfl (x_lenD rD rfl rfl zv rfl u55) zd ?_
  refine o_step (wA_on rfl rfl zw) rfl (x_move rfl zt) zd ?_
  refine o_step (wA_on rfl rfl zw) rfl (x_bin rfl zt zt b_neq) zd ?_
  refine os (x_pick rfl zw zb) ?_
  refine o_done (se_seq ?_)
  refine s_cond zt (fun g4 => ?_) (fun g4 => ?_)
  ·have p4 := g4; try simp only [dd] at p4
   refine s_region hP hC (oA ?_)
   refine o_done (se_seq (s_seq (s_region hP hC (oM ?_))))
   refine oM ?_
   refine oM ?_
   refine oA ?_
   refine oA ?_
   refine oA ?_
   refine o_done (se_seq ?_)
   refine s_ret ?_
   refine ⟨.inr rfl, _, (by simp only [Tryz.results32, resA, Tr.get_set, reduceIte, Nat.reduceEqDiff, Nat.reduceAdd, g2, g4] <;> rfl), fun K' s2 l2 m2 hs2 hb2 => ?_⟩
   cases hs2
   have hl2 := hbv.uniq hb2
   rw [hl2]
   first
    | (rw [ptE_no ow]; exact ⟨_, _, _, rfl, hf1, _, rfl, S1, aD⟩)
    | (rw [ptE_ne ow ow]; exact ⟨_, _, _, rfl, hf1, _, rfl, S1, aD⟩)
    | (rw [ptE_ok ow ow]; exact ⟨_, _, _, rfl, hf1, _, by rw [show (getL rdS l).2.2 = 0 by omega]; rfl, S1, aD⟩)
  ·have p4 := g4; try simp only [dd] at p4
   refine s_skip (se_seq (s_seq (s_region hP hC (oM ?_))))
   refine oM ?_
   refine oM ?_
   refine oA ?_
   refine oA ?_
   refine oA ?_
   refine o_done (se_seq ?_)
   refine s_ret ?_
   refine ⟨.inr rfl, _, (by simp only [Tryz.results32, resA, Tr.get_set, reduceIte, Nat.reduceEqDiff, Nat.reduceAdd, g2, g4] <;> rfl), fun K' s2 l2 m2 hs2 hb2 => ?_⟩
   cases hs2
   have hl2 := hbv.uniq hb2
   rw [hl2]
   first
    | (rw [ptE_no ow]; exact ⟨_, _, _, rfl, hf1, _, rfl, S1, aD⟩)
    | (rw [ptE_ne ow ow]; exact ⟨_, _, _, rfl, hf1, _, rfl, S1, aD⟩)
    | (rw [ptE_ok ow ow]; exact ⟨_, _, _, rfl, hf1, _, by rw [show (getL rdS l).2.2 = 0 by omega]; rfl, S1, aD⟩)
 ·have p2 := g2; try simp only [dd] at p2
  refine oS ?_
  refine oS ?_
  refine oS ?_
  refine oS ?_
  refine os (x_pick rfl zw zb) ?_
  refine o_done (se_seq ?_)
  refine s_condF zt ?_
  refine s_skip (se_seq (s_seq (s_region hP hC (oM ?_))))
  refine oM ?_
  refine oM ?_
  refine oA ?_
  refine oA ?_
  refine oA ?_
  refine o_done (se_seq ?_)
  refine s_ret ?_
  refine ⟨.inr rfl, _, (by simp only [Tryz.results32, resA, Tr.get_set, reduceIte, Nat.reduceEqDiff, Nat.reduceAdd, g2] <;> rfl), fun K' s2 l2 m2 hs2 hb2 => ?_⟩
  cases hs2
  have hl2 := hbv.uniq hb2
  rw [hl2]
  first
   | (rw [ptE_no ow]; exact ⟨_, _, _, rfl, hf1, _, rfl, S1, aD⟩)
   | (rw [ptE_ne ow ow]; exact ⟨_, _, _, rfl, hf1, _, rfl, S1, aD⟩)
   | (rw [ptE_ok ow ow]; exact ⟨_, _, _, rfl, hf1, _, by rw [show (getL rdS l).2.2 = 0 by omega]; rfl, S1, aD⟩)
def R_ptd : List Value -> AH -> Value -> AH -> Prop := fun args h v h' => ∀ K s l m, args = [.func (.func 30) ⟨[]⟩ ⟨[]⟩, s, .int .i64 m] -> BV h.t K s l -> LPost 16 (3 * l.length + 10) (dgN l) (dgC l (dgN l)) (dgA l) (ptE (cntE l 16) (dgN l) m) h.t h.next h.wr v h'
noncomputable def c_ptd := cEx Tryz.prog 29 R_ptd
theorem con_ptd : Con Tryz.prog 29 c_ptd := con_ex Tryz.func29 rfl
theorem ptd_c {t : Tr AObj} {K : Nat -> Prop} {nx wr : Nat} {s : Value} {l : List Int} {m : Int} (hbv : BV t K s l) (hK : ∀ i, K i -> i < nx) (hB : Byt l) (hb : l.length <= 4294967296) (hN : nx + 3 * l.length + 100 <= BIG) (hwr : wr <= BIG) : ∃ v h', c_ptd [.func (.func 30) ⟨[]⟩ ⟨[]⟩, s, .int .i64 m] ⟨t, nx, wr⟩ = some (v, h') /\ LPost 16 (3 * l.length + 10) (dgN l) (dgC l (dgN l)) (dgA l) (ptE (cntE l 16) (dgN l) m) t nx wr v h' := by
 have hP := Fits
 have hC : CallSound Tryz.prog (tabOf [(30, c_gdp)]) := tab_sound (tab_cons con_gdp tab_end)
 suffices key : SureK Tryz.prog ⟨t, nx, wr⟩ _ [] _ (EndR Tryz.prog _ (R_ptd [.func (.func 30) ⟨[]⟩ ⟨[]⟩, s, .int .i64 m] ⟨t, nx, wr⟩)) by
  obtain ⟨v, h', q, c⟩ := sure_start (R := R_ptd) (sz := 30) Tryz.func29 rfl rfl zo key
  exact ⟨v, h', q, c K s l m rfl hbv⟩
 refine s_seq (s_region hP hC (oA ?_))
 refine oA ?_
 refine oA ?_
 refine o_done (se_seq (s_seq (s_region hP hC (oM ?_))))
 refine oM ?_
 refine o_callRC (tab_hitR (gdp_c hbv hK hB hb ow hwr)) (wA_none rfl) rfl rfl rfl zt zv zd (fun v1 h1 hR1 => ?_)
 obtain ⟨t1, nx1, wq1, rfl, hf1, w, rfl, S1, aD⟩ := hR1
 have rD := aD.rds
 have hx1 := hf1.same
 refine oM ?_
 refine os (x_extract rfl zt rfl) ?_
 refine os (x_extract rfl zt rfl) ?_
 refine os (x_extract rfl zt rfl) ?_
 refine oA ?_
 refine oA ?_
 refine oA ?_
 refine o_done (se_seq (s_seq (s_seq (s_region hP hC (oM ?_)))))
 refine os (x_bin rfl zt (by rfl) b_eql) ?_
 refine oM ?_
 refine o_guard rfl rfl (by (repeat (first | rw [gn ow] | rw [hx1 _ ow])) <;> first | rfl | assumption | (rw [gp ow]; done) | (rw [gp ow]; rfl)) (fun g2 => ?_) (fun g2 => ?_)
 ·have p2 := g2; try simp only [dd] at p2
  refine o_step (wA_on rfl rfl zw) rfl (x_move rfl zt) zd ?_
  refine o_step (wA_on rfl rfl zw) rfl (x_lenD rD rfl rfl zv rfl u42) zd ?_
  refine o_step (wA_on rfl rfl zw) rfl (x_move rfl zt) zd ?_
  refine o_step (wA_on rfl rfl zw) rfl (x_bin rfl zt zt b_neq) zd ?_
  refine os (x_pick rfl zw zb) ?_
  refine o_done (se_seq ?_)
  refine s_cond zt (fun g4 => ?_) (fun g4 => ?_)
  ·have p4 := g4; try simp only [dd] at p4
   refine s_region hP hC (oA ?_)
   refine o_done (se_seq (s_seq (s_region hP hC (oM ?_))))
   refine oM ?_
   refine oM ?_
   refine oA ?_
   refine oA ?_
   refine oA ?_
   refine o_done (se_seq ?_)
   refine s_ret ?_
   refine ⟨.inr rfl, _, (by simp only [Tryz.results29, resA, Tr.get_set, reduceIte, Nat.reduceEqDiff, Nat.reduceAdd, g2, g4] <;> rfl), fun K' s2 l2 m2 hs2 hb2 => ?_⟩
   cases hs2
   have hl2 := hbv.uniq hb2
   rw [hl2]
   first
    | (rw [ptE_no ow]; exact ⟨_, _, _, rfl, hf1, _, rfl, S1, aD⟩)
    | (rw [ptE_ne ow ow]; exact ⟨_, _, _, rfl, hf1, _, rfl, S1, aD⟩)
    | (rw [ptE_ok ow ow]; exact ⟨_, _, _, rfl, hf1, _, by rw [show (cntE l 16) = 0 by omega]; rfl, S1, aD⟩)
  ·have p4 := g4; try simp only [dd] at p4
   refine s_skip (se_seq (s_seq (s_region hP hC (oM ?_))))
   refine oM ?_
   refine oM ?_
   refine oA ?_
   refine oA ?_
   refine oA ?_
   refine o_done (se_seq ?_)
   refine s_ret ?_
   refine ⟨.inr rfl, _, (by simp only [Tryz.results29, resA, Tr.get_set, reduceIte, Nat.reduceEqDiff, Nat.reduceAdd, g2, g4] <;> rfl), fun K' s2 l2 m2 hs2 hb2 => ?_⟩
   cases hs2
   have hl2 := hbv.uniq hb2
   rw [hl2]
   first
    | (rw [ptE_no ow]; exact ⟨_, _, _, rfl, hf1, _, rfl, S1, aD⟩)
    | (rw [ptE_ne ow ow]; exact ⟨_, _, _, rfl, hf1, _, rfl, S1, aD⟩)
    | (rw [ptE_ok ow ow]; exact ⟨_, _, _, rfl, hf1, _, by rw [show (cntE l 16) = 0 by omega]; rfl, S1, aD⟩)
 ·have p2 := g2; try simp only [dd] at p2
  refine oS ?_
  refine oS ?_
  refine oS ?_
  refine oS ?_
  refine os (x_pick rfl zw zb) ?_
  refine o_done (se_seq ?_)
  refine s_condF zt ?_
  refine s_skip (se_seq (s_seq (s_region hP hC (oM ?_))))
  refine oM ?_
  refine oM ?_
  refine oA ?_
  refine oA ?_
  refine oA ?_
  refine o_done (se_seq ?_)
  refine s_ret ?_
  refine ⟨.inr rfl, _, (by simp only [Tryz.results29, resA, Tr.get_set, reduceIte, Nat.reduceEqDiff, Nat.reduceAdd, g2] <;> rfl), fun K' s2 l2 m2 hs2 hb2 => ?_⟩
  cases hs2
  have hl2 := hbv.uniq hb2
  rw [hl2]
  first
   | (rw [ptE_no ow]; exact ⟨_, _, _, rfl, hf1, _, rfl, S1, aD⟩)
   | (rw [ptE_ne ow ow]; exact ⟨_, _, _, rfl, hf1, _, rfl, S1, aD⟩)
   | (rw [ptE_ok ow ow]; exact ⟨_, _, _, rfl, hf1, _, by rw [show (cntE l 16) = 0 by omega]; rfl, S1, aD⟩)
end Go.Proofs.YtfgmplbclpadbaaGreatDoor
namespace Go.Proofs.YtfgmplbclpadbaaGreatDoor
open Go.AM
set_option maxRecDepth 100000
set_option maxHeartbeats 1000000
set_option maxHeartbeats 8000000
theorem de_ok {b : Array Nat} {w nx wr : Nat} {infs : List Inf} (h : tailOk b w infs = true) (h1 : nx <= BIG) (h2 : wr <= BIG) : (tailOk b w infs && decide (nx <= BIG) && decide (wr <= BIG)) = true := by
 rw [h, decide_eq_true h1, decide_eq_true h2]; rfl
def STpost (n e a : Int) (ia ib : Nat) (t : Tr AObj) (nx wr : Nat) (v : Value) (h' : AH) : Prop := ∃ t' wr', h' = ⟨t', nx, wr'⟩ /\ v = .bool (decide (e = 0)) /\ t'.get ia = some (.row [.int .i64 (a + n)] ia BIG false 1) /\ t'.get ib = some (.row [.int .i64 e] ib BIG false 1) /\ (∀ i, i ≠ ia -> i ≠ ib -> t'.get i = t.get i) /\ min wr ia <= wr' /\ wr' <= wr
def STR : List Value -> AH -> Value -> AH -> Prop := fun args h v h' => ∀ n e a f ia ib, args = [.int .i64 n, .int .i64 e, .pointer (some ⟨ia, 0, none⟩), .pointer (some ⟨ib, 0, none⟩)] -> h.t.get ia = some (.row [.int .i64 a] ia BIG false 1) -> h.t.get ib = some (.row [.int .i64 f] ib BIG false 1) -> STpost n e a ia ib h.t h.next h.wr v h'
noncomputable def c_step := cEx Tryz.prog 24 STR
theorem con_step : Con Tryz.prog 24 c_step := con_ex Tryz.func24 rfl
theorem step_c {t : Tr AObj} {nx wr : Nat} {n e a f : Int} {ia ib : Nat} (ha : t.get ia = some (.row [.int .i64 a] ia BIG false 1)) (hb : t.get ib = some (.row [.int .i64 f] ib BIG false 1)) (hab : ia < ib) (hbn : ib < nx) (hr : -9223372036854775808 <= a + n /\ a + n <= 9223372036854775807) (hnx : nx <= BIG) (hwr : wr <= BIG) : ∃ v h', c_step [.int .i64 n, .int .i64 e, .pointer (some ⟨ia, 0, none⟩), .pointer (some ⟨ib, 0, none⟩)] ⟨t, nx, wr⟩ = some (v, h') /\ STpost n e a ia ib t nx wr v h' := by
 have hP := Fits
 have hC : CallSound Tryz.prog (tabOf []) := tab_sound tab_end
 suffices key : SureK Tryz.prog ⟨t, nx, wr⟩ _ [] _ (EndR Tryz.prog _ (STR [.int .i64 n, .int .i64 e, .pointer (some ⟨ia, 0, none⟩), .pointer (some ⟨ib, 0, none⟩)] ⟨t, nx, wr⟩)) by
  obtain ⟨v, h', q, c⟩ := sure_start (R := STR) (sz := 13) Tryz.func24 rfl rfl zo key
  exact ⟨v, h', q, c n e a f ia ib rfl ha hb⟩
 refine s_seq (s_region hP hC (oA ?_))
 refine o_done (se_seq (s_seq ?_))
 have hqB : nx <= BIG := by omega
 refine s_draw hP hC zr ?_
 refine dM ?_
 refine ds (x_load1 rfl zt T.g3 (l_all (whole_row ha rfl) rfl)) ?_
 refine dM ?_
 refine ds (x_bin rfl zt zt (b_addR hr)) ?_
 refine d_stepN (wA_none rfl) rfl (y_store1 rfl zt zt rfl T.s44 hb rfl rfl rfl) ?_
 refine d_stepN (wA_none rfl) rfl (y_store1 rfl zt zt rfl T.s3 (show Tr.get _ ia = _ from by rw [gn ow]; exact ha) rfl rfl rfl) ?_
 refine d_done ⟨?_, ?_⟩
 ·refine de_ok (tail_marks [true, true, true, true, false, false] [true, true, true, true, false, false] (.cons (fun _ => stab_none (x := infOf _ _ _ _ _ _ _) rfl (inf_pure rfl rfl hnx).1 (inf_pure rfl rfl hnx).2.1 (inf_pure rfl rfl hnx).2.2) (fun _ => (inf_pure rfl rfl hnx).2.1) (.cons (fun _ => stab_some (x := infOf _ _ _ _ _ _ _) (r := ia) rfl (inf_load rfl (by simp only [readId, ev_tmp, Tr.get_set, reduceIte, Nat.reduceEqDiff, Nat.reduceAdd] <;> rfl) hnx (root_row ha) ow).1 (inf_load rfl (by simp only [readId, ev_tmp, Tr.get_set, reduceIte, Nat.reduceEqDiff, Nat.reduceAdd] <;> rfl) hnx (root_row ha) ow).2.1 (inf_load rfl (by simp only [readId, ev_tmp, Tr.get_set, reduceIte, Nat.reduceEqDiff, Nat.reduceAdd] <;> rfl) hnx (root_row ha) ow).2.2 ?_) (fun _ => (inf_load rfl (by simp only [readId, ev_tmp, Tr.get_set, reduceIte, Nat.reduceEqDiff, Nat.reduceAdd] <;> rfl) hnx (root_row ha) ow).2.1) (.cons (fun _ => stab_none (x := infOf _ _ _ _ _ _ _) rfl (inf_pure rfl rfl hnx).1 (inf_pure rfl rfl hnx).2.1 (inf_pure rfl rfl hnx).2.2) (fun _ => (inf_pure rfl rfl hnx).2.1) (.cons (fun _ => stab_none (x := infOf _ _ _ _ _ _ _) rfl (inf_pure rfl rfl hnx).1 (inf_pure rfl rfl hnx).2.1 (inf_pure rfl rfl hnx).2.2) (fun _ => (inf_pure rfl rfl hnx).2.1) (.cons (fun h => by cases h) (fun h => by cases h) (.cons (fun h => by cases h) (fun h => by cases h) .nil)))))) zd) (by show nx <= BIG; omega) (by show wr <= BIG; omega)
  intro i y hy
  match i, hy with
  | 0, hy => cases hy; exact .inl (inf_pure rfl rfl hnx).2.1
  | 1, hy => cases hy; exact .inl (inf_load rfl (by simp only [readId, ev_tmp, Tr.get_set, reduceIte, Nat.reduceEqDiff, Nat.reduceAdd] <;> rfl) hnx (root_row ha) ow).2.1
  | 2, hy => cases hy; exact .inl (inf_pure rfl rfl hnx).2.1
  | 3, hy => cases hy; exact .inl (inf_pure rfl rfl hnx).2.1
  | 4, hy => cases hy; exact .inr (.inl (by show ia < min BIG ib; omega))
  | 5, hy => exact .inr (.inr ⟨by decide, by kernel_rfl⟩)
  | n + 6, hy => cases hy
 refine se_seq (s_seq (s_region hP hC (oM ?_)))
 refine os (x_bin rfl zt (by rfl) b_eql) ?_
 refine oA ?_
 refine o_done (se_seq ?_)
 refine s_ret ?_
 refine ⟨.inr rfl, _, (by simp only [Tryz.results24, resA, Tr.get_set, reduceIte, Nat.reduceEqDiff, Nat.reduceAdd] <;> rfl), fun n2 e2 a2 f2 ia2 ib2 hs2 ha2 hb2 => ?_⟩
 cases hs2
 have e1 := Option.some.inj (ha.symm.trans ha2)
 simp only [AObj.row.injEq, List.cons.injEq, and_true, true_and, Value.int.injEq] at e1
 rw [<-e1]
 exact ⟨_, _, rfl, rfl, by rw [gp rfl], by rw [gn ow, gp rfl], fun i h1 h2 => by rw [Tr.get_set, if_neg h1, Tr.get_set, if_neg h2], by show min wr ia <= _; omega, by show _ <= wr; omega⟩
def stepF (m : Nat) : Value := .func (.func 24) ⟨[]⟩ ⟨[.pointer (some ⟨m + 3, 0, none⟩), .pointer (some ⟨m + 4, 0, none⟩)]⟩
structure DH (t : Tr AObj) (m : Nat) (s : Value) (a f : Int) (d : List Value) : Prop where
 fb : t.get m = some (.row [s] m BIG false 1)
 fa : t.get (m + 2) = some (.row d (m + 2) BIG false d.length)
 fi : t.get (m + 3) = some (.row [.int .i64 a] (m + 3) BIG false 1)
 ff : t.get (m + 4) = some (.row [.int .i64 f] (m + 4) BIG false 1)
 fp : t.get (m + 5) = some (.row [stepF m] (m + 5) BIG false 1)
theorem DH.keep {t t' : Tr AObj} {m : Nat} {s : Value} {a f : Int} {d : List Value} (h : DH t m s a f d) (hk : ∀ i, i < m + 6 -> t'.get i = t.get i) : DH t' m s a f d :=
 ⟨(hk _ ow).trans h.fb, (hk _ ow).trans h.fa, (hk _ ow).trans h.fi, (hk _ ow).trans h.ff, (hk _ ow).trans h.fp⟩
theorem DH.uniq {t : Tr AObj} {m : Nat} {s s' : Value} {a a' f f' : Int} {d d' : List Value} (h : DH t m s a f d) (h' : DH t m s' a' f' d') : s' = s /\ a' = a /\ f' = f /\ d' = d := by
 have e1 := Option.some.inj (h.fb.symm.trans h'.fb)
 have e2 := Option.some.inj (h.fa.symm.trans h'.fa)
 have e3 := Option.some.inj (h.fi.symm.trans h'.fi)
 have e4 := Option.some.inj (h.ff.symm.trans h'.ff)
 simp only [AObj.row.injEq, List.cons.injEq, and_true, true_and, Value.int.injEq] at e1 e2 e3 e4
 exact ⟨e1.symm, e3.symm, e4.symm, e2.1.symm⟩
def CLpost (m b : Nat) (s : Value) (a n e : Int) (d : List Value) (t : Tr AObj) (nx wr : Nat) (v : Value) (h' : AH) : Prop := ∃ t' nx' wr', h' = ⟨t', nx', wr'⟩ /\ v = .bool (decide (e = 0)) /\ DH t' m s (a + n) e d /\ nx <= nx' /\ nx' <= nx + b /\ min wr (m + 2) <= wr' /\ wr' <= wr /\ ∀ i, i < nx -> i ≠ m + 2 -> i ≠ m + 3 -> i ≠ m + 4 -> t'.get i = t.get i
theorem own_cell {t t' : Tr AObj} {n0 nx k n : Nat} {S : Nat -> Prop} {w : Value} {d : List Value} (h : AccP t n0 nx S k w n d) (hn : 0 < n) (hk : ∀ x, n0 <= x -> t'.get x = t.get x) : ∃ id, w = .slice (some ⟨id, 0, none⟩) n (n + k) /\ ∀ nx' wr', Whole ⟨t', nx', wr'⟩ id d := by
 rcases h.acc with ⟨q, _⟩ | ⟨_, _, id, r, h1, h2, h3, h4⟩
 ·omega
 ·exact ⟨id, h1, fun nx' wr' => (h2.keep (hk _ (h.bnd _ h4).1) (hk _ (h.bnd _ h3).1)).whole⟩
theorem x_nilCheck {P : Program} {call : Call'} {e : Tr Value} {h : AH} {o : Oper} {x : Operand} {id off : Nat} (ho : o.op = .nilCheck x) (hx : ev e x = some (.pointer (some ⟨id, off, none⟩))) : doOp P call e h o = some (.pointer (some ⟨id, off, none⟩), h) := by
 rw [do_op (by rw [ho]; simp), ho]
 simp only [aop, hx]
theorem pt_zero {e : Int} {n : Nat} {m : Int} (h : ptE e n m = 0) : e = 0 /\ (n : Int) = m := by
 unfold ptE at h
 split at h
 ·rename_i he
  split at h
  ·rename_i hn; exact ⟨he, hn⟩
  ·cases h
 ·rename_i he; exact absurd h he
def txtN (l : List Int) : Int := (getL rdS l).2.1
def txtE (l : List Int) : Int := ptE (getL rdS l).2.2 (getL rdS l).1.length 1
def txtC (l : List Int) : List Value := [.string (strAt (getL rdS l).1 0)]
theorem txtN_rng {l : List Int} (hB : Byt l) : 0 <= txtN l /\ txtN l <= l.length := by
 have h := getL_facts rdS_ok hB
 unfold txtN
 by_cases he : (getL rdS l).2.2 = 0
 ·exact h.1 he
 ·have := (h.2 he).1; omega
theorem rdL_str {l : List Int} : ∀ (k : Nat) (a : Int) (acc : List Value), (∀ x ∈ acc, ∃ b, x = .string b) -> ∀ x ∈ (rdL rdS l k a acc).1, ∃ b, x = .string b
 | 0, a, acc, h => h
 | k + 1, a, acc, h => by
  rw [rdL]
  split
  ·refine rdL_str k _ _ fun x hx => ?_
   rcases List.mem_append.1 hx with hx | hx
   ·exact h x hx
   ·exact ⟨_, List.mem_singleton.1 hx⟩
  ·intro x hx; cases hx
theorem txt_one {l : List Int} (hB : Byt l) (h : txtE l = 0) : (getL rdS l).1.length = 1 /\ (getL rdS l).1 = txtC l := by
 have h1 := (pt_zero h).2
 have h2 : (getL rdS l).1.length = 1 := by omega
 have h3 : ∀ x ∈ (getL rdS l).1, ∃ b, x = .string b := by
  unfold getL
  split
  ·exact rdL_str _ _ _ fun x hx => by cases hx
  ·intro x hx; cases hx
 refine ⟨h2, ?_⟩
 unfold txtC
 match (getL rdS l).1, h2, h3 with
 | [x], _, h3 =>
  obtain ⟨b, rfl⟩ := h3 x (by simp)
  rfl
def R_txt : List Value -> AH -> Value -> AH -> Prop := fun args h v h' => ∀ K s l m a f d off, args = [.pointer (some ⟨m + 2, off, none⟩), .pointer (some ⟨m, 0, none⟩), .pointer (some ⟨m + 3, 0, none⟩), .pointer (some ⟨m + 5, 0, none⟩)] -> BV h.t K s l -> DH h.t m s a f d -> CLpost m (3 * l.length + 10) s a (txtN (l.drop a.toNat)) (txtE (l.drop a.toNat)) (if txtE (l.drop a.toNat) = 0 then splice d off (txtC (l.drop a.toNat)) else d) h.t h.next h.wr v h'
noncomputable def c_txt := cEx Tryz.prog 31 R_txt
theorem con_txt : Con Tryz.prog 31 c_txt := con_ex Tryz.func31 rfl
theorem txt_c {t : Tr AObj} {K : Nat -> Prop} {nx wr : Nat} {s : Value} {l : List Int} {m : Nat} {a f : Int} {d : List Value} {off : Nat} (hbv : BV t K s l) (hD : DH t m s a f d) (hK : ∀ i, K i -> i < m) (hm : m + 6 <= nx) (hB : Byt l) (hb : l.length <= 4294967296) (h0 : 0 <= a) (h1 : a <= l.length) (hof : off + 1 <= d.length) (hN : nx + 3 * l.length + 100 <= BIG) (hwr : wr <= BIG) : ∃ v h', c_txt [.pointer (some ⟨m + 2, off, none⟩), .pointer (some ⟨m, 0, none⟩), .pointer (some ⟨m + 3, 0, none⟩), .pointer (some ⟨m + 5, 0, none⟩)] ⟨t, nx, wr⟩ = some (v, h') /\ CLpost m (3 * l.length + 10) s a (txtN (l.drop a.toNat)) (txtE (l.drop a.toNat)) (if txtE (l.drop a.toNat) = 0 then splice d off (txtC (l.drop a.toNat)) else d) t nx wr v h' := by
 have hP := Fits
 have hC : CallSound Tryz.prog (tabOf [(32, c_pts), (24, c_step)]) := tab_sound (tab_cons con_pts (tab_cons con_step tab_end))
 have hBd : Byt (l.drop a.toNat) := byt_drop hB _
 have hdl : (l.drop a.toNat).length = l.length - a.toNat := List.length_drop
 have hnr := txtN_rng hBd
 suffices key : SureK Tryz.prog ⟨t, nx, wr⟩ _ [] _ (EndR Tryz.prog _ (R_txt [.pointer (some ⟨m + 2, off, none⟩), .pointer (some ⟨m, 0, none⟩), .pointer (some ⟨m + 3, 0, none⟩), .pointer (some ⟨m + 5, 0, none⟩)] ⟨t, nx, wr⟩)) by
  obtain ⟨v, h', q, c⟩ := sure_start (R := R_txt) (sz := 27) Tryz.func31 rfl rfl zo key
  exact ⟨v, h', q, c K s l m a f d off rfl hbv hD⟩
 obtain ⟨w, bw, hsl⟩ := x_sliceB (P := Tryz.prog) (T := 23) (lo := some (.tmp 11)) (hi := none) (i := a) (j := l.length) hbv u23 T.s5 ow ow ow (fun q => by cases q) (fun _ => rfl)
 rw [List.take_of_length_le (by rw [List.length_drop]; omega)] at bw
 refine s_seq (s_region hP hC (oA ?_))
 refine o_done (se_seq (s_seq (s_region hP hC ?_)))
 refine os (x_load1 rfl zt T.g23 (l_all (whole_row hD.fb rfl) rfl)) ?_
 refine os (x_load1 rfl zt T.g3 (l_all (whole_row hD.fi rfl) rfl)) ?_
 refine os (hsl rfl zt (fun a q => by cases q; exact zt) (fun a q => by cases q)) ?_
 refine o_callR (tab_hitR (pts_c (m := 1) bw (fun i q => by have := hK i q; omega) hBd ow ow hwr)) (wA_none rfl) rfl rfl rfl zv zd (fun v1 h1 hR1 => ?_)
 obtain ⟨t1, nx1, wq1, rfl, hf1, w1, rfl, S1, aD⟩ := hR1
 have hx1 := hf1.same
 have q1 := hf1.le
 have q2 := hf1.hi
 have q3 := hf1.wlo
 have q4 := hf1.whi
 have hD1 := hD.keep (t' := t1) (fun i hi => hx1 i ow)
 refine oM ?_
 refine os (x_extract rfl zt rfl) ?_
 refine os (x_extract rfl zt rfl) ?_
 refine os (x_extract rfl zt rfl) ?_
 refine oA ?_
 refine oA ?_
 refine oA ?_
 refine o_done (se_seq (s_seq (s_seq (s_region hP hC ?_))))
 refine os (x_load1 rfl zt T.g59 (l_all (whole_row hD1.fp rfl) rfl)) ?_
 refine oM ?_
 refine oM ?_
 refine o_callRC (tab_missR zd (tab_hitR (step_c (nx := nx1) (wr := wq1) hD1.fi hD1.ff ow ow (by show _ <= a + txtN (l.drop a.toNat) /\ a + txtN (l.drop a.toNat) <= _; omega) ow ow))) (wA_none rfl) rfl rfl rfl zt zv zd (fun v2 h2 hR2 => ?_)
 obtain ⟨t2, wq2, rfl, rfl, hi2, hf2, hx2, q5, q6⟩ := hR2
 have hD2 : DH t2 m s (a + txtN (l.drop a.toNat)) (txtE (l.drop a.toNat)) d := ⟨(hx2 _ ow ow).trans hD1.fb, (hx2 _ ow ow).trans hD1.fa, hi2, hf2, (hx2 _ ow ow).trans hD1.fp⟩
 refine os (x_not rfl zt) ?_
 refine o_done (se_seq ?_)
 refine s_cond zt (fun g3 => ?_) (fun g3 => ?_)
 ·have p3 := g3; try simp only [dd] at p3
  refine s_seq (s_region hP hC (oA ?_))
  refine o_done (se_seq ?_)
  refine s_ret ?_
  refine se_seq_ret ?_
  refine ⟨.inr rfl, _, (by simp only [Tryz.results31, resA, Tr.get_set, reduceIte, Nat.reduceEqDiff, Nat.reduceAdd, g3] <;> rfl), fun K' s2 l2 m2 a2 f2 d2 off2 hs2 hb2 hD' => ?_⟩
  cases hs2
  obtain ⟨rfl, rfl, rfl, rfl⟩ := hD.uniq hD'
  have hl2 := hbv.uniq hb2
  rw [hl2]
  first
   | (rw [if_neg (by assumption)]; exact ⟨_, _, _, rfl, by rw [decide_eq_false (by assumption)]; rfl, hD2, by show nx <= nx1; omega, by show nx1 <= nx + _; omega, by show min wr (m + 2) <= _; omega, by show _ <= wr; omega, fun i hi i1 i2 i3 => (hx2 i i2 i3).trans (hx1 i hi)⟩)
   | (rw [if_pos he]; exact ⟨_, _, _, rfl, by rw [decide_eq_true he]; rfl, ⟨by rw [gn ow]; exact hD2.fb, by rw [gp rfl] <;> rfl, by rw [gn ow]; exact hD2.fi, by rw [gn ow]; exact hD2.ff, by rw [gn ow]; exact hD2.fp⟩, by show nx <= nx1; omega, by show nx1 <= nx + _; omega, by show min wr (m + 2) <= _; omega, by show _ <= wr; omega, fun i hi i1 i2 i3 => by rw [Tr.get_set, if_neg i1]; exact (hx2 i i2 i3).trans (hx1 i hi)⟩)
 ·have p3 := g3; try simp only [dd] at p3
  refine s_skip (se_seq (s_seq ?_))
  have he : txtE (l.drop a.toNat) = 0 := by assumption
  obtain ⟨hln, hlc⟩ := txt_one hBd he
  rw [hln, hlc] at aD
  obtain ⟨idw, rfl, hww⟩ := own_cell aD zd (fun x hx => hx2 x ow ow)
  refine s_region hP hC (oM ?_)
  refine oM ?_
  refine os (x_index rfl zt (by rfl) u55 T.s9 ow zd) ?_
  refine os (x_load1 rfl zt T.g9 (l_all (hww _ _) rfl)) ?_
  refine os (x_nilCheck rfl zt) ?_
  refine o_stepN (wA_none rfl) rfl (y_store1P rfl zt zt rfl T.s9 hD2.fa rfl hof rfl rfl) ?_
  refine o_done (se_seq (s_seq (s_region hP hC (oA ?_))))
  refine o_done (se_seq ?_)
  refine s_ret ?_
  refine ⟨.inr rfl, _, (by simp only [Tryz.results31, resA, Tr.get_set, reduceIte, Nat.reduceEqDiff, Nat.reduceAdd, g3] <;> rfl), fun K' s2 l2 m2 a2 f2 d2 off2 hs2 hb2 hD' => ?_⟩
  cases hs2
  obtain ⟨rfl, rfl, rfl, rfl⟩ := hD.uniq hD'
  have hl2 := hbv.uniq hb2
  rw [hl2]
  first
   | (rw [if_neg (by assumption)]; exact ⟨_, _, _, rfl, by rw [decide_eq_false (by assumption)]; rfl, hD2, by show nx <= nx1; omega, by show nx1 <= nx + _; omega, by show min wr (m + 2) <= _; omega, by show _ <= wr; omega, fun i hi i1 i2 i3 => (hx2 i i2 i3).trans (hx1 i hi)⟩)
   | (rw [if_pos he]; exact ⟨_, _, _, rfl, by rw [decide_eq_true he]; rfl, ⟨by rw [gn ow]; exact hD2.fb, by rw [gp rfl] <;> rfl, by rw [gn ow]; exact hD2.fi, by rw [gn ow]; exact hD2.ff, by rw [gn ow]; exact hD2.fp⟩, by show nx <= nx1; omega, by show nx1 <= nx + _; omega, by show min wr (m + 2) <= _; omega, by show _ <= wr; omega, fun i hi i1 i2 i3 => by rw [Tr.get_set, if_neg i1]; exact (hx2 i i2 i3).trans (hx1 i hi)⟩)
def digN (l : List Int) : Int := dgA l
def digE (l : List Int) : Int := ptE (cntE l 16) (dgN l) 1
def digC (l : List Int) : List Value := dgC l 1
theorem digN_rng {l : List Int} (hB : Byt l) : 0 <= digN l /\ digN l <= l.length := by
 unfold digN
 by_cases h : cntE l 16 = 0
 ·rw [(dgN_yes h).2]
  have := cnt_facts hB zd h
  omega
 ·rw [(dgN_no h).2]; omega
theorem dig_one {l : List Int} (hB : Byt l) (h : digE l = 0) : dgN l = 1 /\ dgC l 1 = digC l := by
 have h1 := (pt_zero h).2
 exact ⟨by omega, rfl⟩
theorem digC_len {l : List Int} (hB : Byt l) (h : digE l = 0) : (digC l).length = 16 := by
 obtain ⟨h1, h2⟩ := pt_zero h
 have h3 := cnt_facts hB zd h1
 rw [(dgN_yes h1).1] at h2
 have := dgC_len (l := l) (k := 1) zd ow ow
 exact this
def R_dig : List Value -> AH -> Value -> AH -> Prop := fun args h v h' => ∀ K s l m a f d off, args = [.pointer (some ⟨m + 2, off, none⟩), .pointer (some ⟨m, 0, none⟩), .pointer (some ⟨m + 3, 0, none⟩), .pointer (some ⟨m + 5, 0, none⟩)] -> BV h.t K s l -> DH h.t m s a f d -> CLpost m (3 * l.length + 10) s a (digN (l.drop a.toNat)) (digE (l.drop a.toNat)) (if digE (l.drop a.toNat) = 0 then splice d off (digC (l.drop a.toNat)) else d) h.t h.next h.wr v h'
noncomputable def c_dig := cEx Tryz.prog 28 R_dig
theorem con_dig : Con Tryz.prog 28 c_dig := con_ex Tryz.func28 rfl
theorem dig_c {t : Tr AObj} {K : Nat -> Prop} {nx wr : Nat} {s : Value} {l : List Int} {m : Nat} {a f : Int} {d : List Value} {off : Nat} (hbv : BV t K s l) (hD : DH t m s a f d) (hK : ∀ i, K i -> i < m) (hm : m + 6 <= nx) (hB : Byt l) (hb : l.length <= 4294967296) (h0 : 0 <= a) (h1 : a <= l.length) (hof : off + 16 <= d.length) (hN : nx + 3 * l.length + 100 <= BIG) (hwr : wr <= BIG) : ∃ v h', c_dig [.pointer (some ⟨m + 2, off, none⟩), .pointer (some ⟨m, 0, none⟩), .pointer (some ⟨m + 3, 0, none⟩), .pointer (some ⟨m + 5, 0, none⟩)] ⟨t, nx, wr⟩ = some (v, h') /\ CLpost m (3 * l.length + 10) s a (digN (l.drop a.toNat)) (digE (l.drop a.toNat)) (if digE (l.drop a.toNat) = 0 then splice d off (digC (l.drop a.toNat)) else d) t nx wr v h' := by
 have hP := Fits
 have hC : CallSound Tryz.prog (tabOf [(29, c_ptd), (24, c_step)]) := tab_sound (tab_cons con_ptd (tab_cons con_step tab_end))
 have hBd : Byt (l.drop a.toNat) := byt_drop hB _
 have hdl : (l.drop a.toNat).length = l.length - a.toNat := List.length_drop
 have hnr := digN_rng hBd
 suffices key : SureK Tryz.prog ⟨t, nx, wr⟩ _ [] _ (EndR Tryz.prog _ (R_dig [.pointer (some ⟨m + 2, off, none⟩), .pointer (some ⟨m, 0, none⟩), .pointer (some ⟨m + 3, 0, none⟩), .pointer (some ⟨m + 5, 0, none⟩)] ⟨t, nx, wr⟩)) by
  obtain ⟨v, h', q, c⟩ := sure_start (R := R_dig) (sz := 27) Tryz.func28 rfl rfl zo key
  exact ⟨v, h', q, c K s l m a f d off rfl hbv hD⟩
 obtain ⟨w, bw, hsl⟩ := x_sliceB (P := Tryz.prog) (T := 23) (lo := some (.tmp 11)) (hi := none) (i := a) (j := l.length) hbv u23 T.s5 ow ow ow (fun q => by cases q) (fun _ => rfl)
 rw [List.take_of_length_le (by rw [List.length_drop]; omega)] at bw
 refine s_seq (s_region hP hC (oA ?_))
 refine o_done (se_seq (s_seq (s_region hP hC ?_)))
 refine os (x_load1 rfl zt T.g23 (l_all (whole_row hD.fb rfl) rfl)) ?_
 refine os (x_load1 rfl zt T.g3 (l_all (whole_row hD.fi rfl) rfl)) ?_
 refine os (hsl rfl zt (fun a q => by cases q; exact zt) (fun a q => by cases q)) ?_
 refine o_callR (tab_hitR (ptd_c (m := 1) bw (fun i q => by have := hK i q; omega) hBd ow ow hwr)) (wA_none rfl) rfl rfl rfl zv zd (fun v1 h1 hR1 => ?_)
 obtain ⟨t1, nx1, wq1, rfl, hf1, w1, rfl, S1, aD⟩ := hR1
 have hx1 := hf1.same
 have q1 := hf1.le
 have q2 := hf1.hi
 have q3 := hf1.wlo
 have q4 := hf1.whi
 have hD1 := hD.keep (t' := t1) (fun i hi => hx1 i ow)
 refine oM ?_
 refine os (x_extract rfl zt rfl) ?_
 refine os (x_extract rfl zt rfl) ?_
 refine os (x_extract rfl zt rfl) ?_
 refine oA ?_
 refine oA ?_
 refine oA ?_
 refine o_done (se_seq (s_seq (s_seq (s_region hP hC ?_))))
 refine os (x_load1 rfl zt T.g59 (l_all (whole_row hD1.fp rfl) rfl)) ?_
 refine oM ?_
 refine oM ?_
 refine o_callRC (tab_missR zd (tab_hitR (step_c (nx := nx1) (wr := wq1) hD1.fi hD1.ff ow ow (by show _ <= a + digN (l.drop a.toNat) /\ a + digN (l.drop a.toNat) <= _; omega) ow ow))) (wA_none rfl) rfl rfl rfl zt zv zd (fun v2 h2 hR2 => ?_)
 obtain ⟨t2, wq2, rfl, rfl, hi2, hf2, hx2, q5, q6⟩ := hR2
 have hD2 : DH t2 m s (a + digN (l.drop a.toNat)) (digE (l.drop a.toNat)) d := ⟨(hx2 _ ow ow).trans hD1.fb, (hx2 _ ow ow).trans hD1.fa, hi2, hf2, (hx2 _ ow ow).trans hD1.fp⟩
 refine os (x_not rfl zt) ?_
 refine o_done (se_seq ?_)
 refine s_cond zt (fun g3 => ?_) (fun g3 => ?_)
 ·have p3 := g3; try simp only [dd] at p3
  refine s_seq (s_region hP hC (oA ?_))
  refine o_done (se_seq ?_)
  refine s_ret ?_
  refine se_seq_ret ?_
  refine ⟨.inr rfl, _, (by simp only [Tryz.results28, resA, Tr.get_set, reduceIte, Nat.reduceEqDiff, Nat.reduceAdd, g3] <;> rfl), fun K' s2 l2 m2 a2 f2 d2 off2 hs2 hb2 hD' => ?_⟩
  cases hs2
  obtain ⟨rfl, rfl, rfl, rfl⟩ := hD.uniq hD'
  have hl2 := hbv.uniq hb2
  rw [hl2]
  first
   | (rw [if_neg (by assumption)]; exact ⟨_, _, _, rfl, by rw [decide_eq_false (by assumption)]; rfl, hD2, by show nx <= nx1; omega, by show nx1 <= nx + _; omega, by show min wr (m + 2) <= _; omega, by show _ <= wr; omega, fun i hi i1 i2 i3 => (hx2 i i2 i3).trans (hx1 i hi)⟩)
   | (rw [if_pos he]; exact ⟨_, _, _, rfl, by rw [decide_eq_true he]; rfl, ⟨by rw [gn ow]; exact hD2.fb, by rw [gp rfl] <;> rfl, by rw [gn ow]; exact hD2.fi, by rw [gn ow]; exact hD2.ff, by rw [gn ow]; exact hD2.fp⟩, by show nx <= nx1; omega, by show nx1 <= nx + _; omega, by show min wr (m + 2) <= _; omega, by show _ <= wr; omega, fun i hi i1 i2 i3 => by rw [Tr.get_set, if_neg i1]; exact (hx2 i i2 i3).trans (hx1 i hi)⟩)
 ·have p3 := g3; try simp only [dd] at p3
  refine s_skip (se_seq (s_seq ?_))
  have he : digE (l.drop a.toNat) = 0 := by assumption
  obtain ⟨hln, hlc⟩ := dig_one hBd he
  rw [hln, hlc] at aD
  obtain ⟨idw, rfl, hww⟩ := own_cell aD zd (fun x hx => hx2 x ow ow)
  refine s_region hP hC (oM ?_)
  refine oM ?_
  refine os (x_index rfl zt (by rfl) u42 T.s25 ow zd) ?_
  refine os (x_loadA rfl zt T.g25 T.s25 (l_all (hww _ _) (digC_len hBd he).symm)) ?_
  refine os (x_nilCheck rfl zt) ?_
  refine o_stepN (wA_none rfl) rfl (y_storeAP rfl zt zt T.s25 (digC_len hBd he) hD2.fa rfl hof (bys_one _) rfl) ?_
  refine o_done (se_seq (s_seq (s_region hP hC (oA ?_))))
  refine o_done (se_seq ?_)
  refine s_ret ?_
  refine ⟨.inr rfl, _, (by simp only [Tryz.results28, resA, Tr.get_set, reduceIte, Nat.reduceEqDiff, Nat.reduceAdd, g3] <;> rfl), fun K' s2 l2 m2 a2 f2 d2 off2 hs2 hb2 hD' => ?_⟩
  cases hs2
  obtain ⟨rfl, rfl, rfl, rfl⟩ := hD.uniq hD'
  have hl2 := hbv.uniq hb2
  rw [hl2]
  first
   | (rw [if_neg (by assumption)]; exact ⟨_, _, _, rfl, by rw [decide_eq_false (by assumption)]; rfl, hD2, by show nx <= nx1; omega, by show nx1 <= nx + _; omega, by show min wr (m + 2) <= _; omega, by show _ <= wr; omega, fun i hi i1 i2 i3 => (hx2 i i2 i3).trans (hx1 i hi)⟩)
   | (rw [if_pos he]; exact ⟨_, _, _, rfl, by rw [decide_eq_true he]; rfl, ⟨by rw [gn ow]; exact hD2.fb, by rw [gp rfl] <;> rfl, by rw [gn ow]; exact hD2.fi, by rw [gn ow]; exact hD2.ff, by rw [gn ow]; exact hD2.fp⟩, by show nx <= nx1; omega, by show nx1 <= nx + _; omega, by show min wr (m + 2) <= _; omega, by show _ <= wr; omega, fun i hi i1 i2 i3 => by rw [Tr.get_set, if_neg i1]; exact (hx2 i i2 i3).trans (hx1 i hi)⟩)
theorem gbN_rng {l : List Int} (hB : Byt l) : 0 <= gbN l /\ gbN l <= l.length := by
 unfold gbN
 split
 ·have := cnt_facts (s := 1) hB zd (by assumption); omega
 ·omega
def R_sig : List Value -> AH -> Value -> AH -> Prop := fun args h v h' => ∀ K s l m a f d, args = [.pointer (some ⟨m, 0, none⟩), .pointer (some ⟨m + 3, 0, none⟩), .pointer (some ⟨m + 2, 0, none⟩), .pointer (some ⟨m + 5, 0, none⟩)] -> BV h.t K s l -> DH h.t m s a f d -> CLpost m (3 * l.length + 10) s a (gbN (l.drop a.toNat)) (cntE (l.drop a.toNat) 1) (splice d 45 [.string (gbS (l.drop a.toNat))]) h.t h.next h.wr v h'
noncomputable def c_sig := cEx Tryz.prog 34 R_sig
theorem con_sig : Con Tryz.prog 34 c_sig := con_ex Tryz.func34 rfl
theorem sig_c {t : Tr AObj} {K : Nat -> Prop} {nx wr : Nat} {s : Value} {l : List Int} {m : Nat} {a f : Int} {d : List Value} (hbv : BV t K s l) (hD : DH t m s a f d) (hK : ∀ i, K i -> i < m) (hm : m + 6 <= nx) (hB : Byt l) (hb : l.length <= 4294967296) (h0 : 0 <= a) (h1 : a <= l.length) (hof : d.length = 46) (hN : nx + 3 * l.length + 100 <= BIG) (hwr : wr <= BIG) : ∃ v h', c_sig [.pointer (some ⟨m, 0, none⟩), .pointer (some ⟨m + 3, 0, none⟩), .pointer (some ⟨m + 2, 0, none⟩), .pointer (some ⟨m + 5, 0, none⟩)] ⟨t, nx, wr⟩ = some (v, h') /\ CLpost m (3 * l.length + 10) s a (gbN (l.drop a.toNat)) (cntE (l.drop a.toNat) 1) (splice d 45 [.string (gbS (l.drop a.toNat))]) t nx wr v h' := by
 have hP := Fits
 have hC : CallSound Tryz.prog (tabOf [(35, c_gbp), (24, c_step)]) := tab_sound (tab_cons con_gbp (tab_cons con_step tab_end))
 have hBd : Byt (l.drop a.toNat) := byt_drop hB _
 have hdl : (l.drop a.toNat).length = l.length - a.toNat := List.length_drop
 have hnr := gbN_rng hBd
 suffices key : SureK Tryz.prog ⟨t, nx, wr⟩ _ [] _ (EndR Tryz.prog _ (R_sig [.pointer (some ⟨m, 0, none⟩), .pointer (some ⟨m + 3, 0, none⟩), .pointer (some ⟨m + 2, 0, none⟩), .pointer (some ⟨m + 5, 0, none⟩)] ⟨t, nx, wr⟩)) by
  obtain ⟨v, h', q, c⟩ := sure_start (R := R_sig) (sz := 22) Tryz.func34 rfl rfl zo key
  exact ⟨v, h', q, c K s l m a f d rfl hbv hD⟩
 obtain ⟨w, bw, hsl⟩ := x_sliceB (P := Tryz.prog) (T := 23) (lo := some (.tmp 10)) (hi := none) (i := a) (j := l.length) hbv u23 T.s5 ow ow ow (fun q => by cases q) (fun _ => rfl)
 rw [List.take_of_length_le (by rw [List.length_drop]; omega)] at bw
 refine s_seq (s_region hP hC (oA ?_))
 refine o_done (se_seq (s_seq (s_region hP hC ?_)))
 refine os (x_load1 rfl zt T.g23 (l_all (whole_row hD.fb rfl) rfl)) ?_
 refine os (x_load1 rfl zt T.g3 (l_all (whole_row hD.fi rfl) rfl)) ?_
 refine os (hsl rfl zt (fun a q => by cases q; exact zt) (fun a q => by cases q)) ?_
 refine o_call0 (wA_none rfl) rfl rfl rfl zv zd ?_
 refine ⟨_, _, (tab_hit.trans (gbp_c bw.rd hBd (by rw [ok_gbp, decide_eq_true ow]))), ?_⟩
 refine oM ?_
 refine os (x_extract rfl zt rfl) ?_
 refine os (x_extract rfl zt rfl) ?_
 refine os (x_extract rfl zt rfl) ?_
 refine oA ?_
 refine oA ?_
 refine oA ?_
 refine o_done (se_seq (s_seq (s_region hP hC (oM ?_))))
 refine os (x_field rfl zt u35 rfl T.s9 rfl) ?_
 refine o_stepN (wA_none rfl) rfl (y_store1P (off := 45) rfl zt zt rfl T.s9 hD.fa rfl ow rfl rfl) ?_
 refine o_done (se_seq (s_seq ?_))
 have hD1 : DH (t.set (m + 2) (.row (splice d 45 [.string (gbS (l.drop a.toNat))]) (m + 2) BIG false (splice d 45 [.string (gbS (l.drop a.toNat))]).length)) m s a f (splice d 45 [.string (gbS (l.drop a.toNat))]) := ⟨by rw [gn ow]; exact hD.fb, by rw [gp rfl], by rw [gn ow]; exact hD.fi, by rw [gn ow]; exact hD.ff, by rw [gn ow]; exact hD.fp⟩
 refine s_region hP hC ?_
 refine os (x_load1 rfl zt T.g59 (l_all (whole_row hD1.fp rfl) rfl)) ?_
 refine oM ?_
 refine oM ?_
 refine o_callRC (tab_missR zd (tab_hitR (step_c (nx := nx) (wr := min wr (m + 2)) hD1.fi hD1.ff ow ow (by show _ <= a + gbN (l.drop a.toNat) /\ a + gbN (l.drop a.toNat) <= _; omega) ow ow))) (wA_none rfl) rfl rfl rfl zt zv zd (fun v2 h2 hR2 => ?_)
 obtain ⟨t2, wq2, rfl, rfl, hi2, hf2, hx2, q5, q6⟩ := hR2
 refine oA ?_
 refine o_done (se_seq ?_)
 refine s_ret ?_
 refine ⟨.inr rfl, _, (by simp only [Tryz.results34, resA, Tr.get_set, reduceIte, Nat.reduceEqDiff, Nat.reduceAdd] <;> rfl), fun K' s2 l2 m2 a2 f2 d2 hs2 hb2 hD' => ?_⟩
 cases hs2
 obtain ⟨rfl, rfl, rfl, rfl⟩ := hD.uniq hD'
 have hl2 := hbv.uniq hb2
 rw [hl2]
 exact ⟨_, _, _, rfl, rfl, ⟨(hx2 _ ow ow).trans hD1.fb, (hx2 _ ow ow).trans hD1.fa, hi2, hf2, (hx2 _ ow ow).trans hD1.fp⟩, Nat.le_refl _, by show nx <= nx + _; omega, by show min wr (m + 2) <= _; omega, by show _ <= wr; omega, fun i hi i1 i2 i3 => by rw [hx2 i i2 i3, Tr.get_set, if_neg i1]⟩
end Go.Proofs.YtfgmplbclpadbaaGreatDoor
namespace Go.Proofs.YtfgmplbclpadbaaGreatDoor
open Go.AM
set_option maxRecDepth 100000
set_option maxHeartbeats 1000000
def stI (d : List Value) : List Nat -> List Value -> List Value
 | o :: ps, x :: xs => stI (splice d o [x]) ps xs
 | _, _ => d
theorem splice_len1 {d : List Value} {o : Nat} {x : Value} (h : o + 1 <= d.length) : (splice d o [x]).length = d.length := splice_len (by simpa using h)
theorem stI_len : ∀ {ps : List Nat} {xs d : List Value}, (∀ o ∈ ps, o + 1 <= d.length) -> (stI d ps xs).length = d.length
 | [], _, d, _ => by unfold stI; rfl
 | o :: ps, [], d, _ => by unfold stI; rfl
 | o :: ps, x :: xs, d, h => by
  have h1 := splice_len1 (x := x) (h o (List.mem_cons_self ..))
  unfold stI
  rw [stI_len (fun p hp => by rw [h1]; exact h p (List.mem_cons_of_mem _ hp)), h1]
theorem stI_next : ∀ {ps : List Nat} {xs d : List Value} {i : Nat} (h1 : i < ps.length) (h2 : i < xs.length), splice (stI d (ps.take i) (xs.take i)) ps[i] [xs[i]] = stI d (ps.take (i + 1)) (xs.take (i + 1))
 | o :: ps, x :: xs, d, 0, _, _ => by simp [stI]
 | o :: ps, x :: xs, d, i + 1, h1, h2 => by
  simp only [List.take_succ_cons, stI, List.getElem_cons_succ]
  exact stI_next (by simpa using h1) (by simpa using h2)
def itN (l : List Int) : Int := (getL rdI l).2.1
def itE (l : List Int) (n : Nat) : Int := ptE (getL rdI l).2.2 (getL rdI l).1.length n
theorem itN_rng {l : List Int} (hB : Byt l) : 0 <= itN l /\ itN l <= l.length := by
 have h := getL_facts rdI_ok hB
 unfold itN
 by_cases he : (getL rdI l).2.2 = 0
 ·exact h.1 he
 ·have := (h.2 he).1; omega
theorem rdL_one {l : List Int} : ∀ (k : Nat) (a : Int) (acc : List Value), (∀ x ∈ acc, oneC x = true) -> ∀ x ∈ (rdL rdI l k a acc).1, oneC x = true
 | 0, a, acc, h => h
 | k + 1, a, acc, h => by
  rw [rdL]
  split
  ·refine rdL_one k _ _ fun x hx => ?_
   rcases List.mem_append.1 hx with hx | hx
   ·exact h x hx
   ·rw [List.mem_singleton.1 hx]; rfl
  ·intro x hx; cases hx
theorem getI_one {l : List Int} : ∀ x ∈ (getL rdI l).1, oneC x = true := by
 unfold getL
 split
 ·exact rdL_one _ _ _ fun x hx => by cases hx
 ·intro x hx; cases hx
theorem l_nth {h : AH} {id : Nat} {d : List Value} {i : Nat} (hw : Whole h id d) (h1 : i < d.length) : loadC h id (0 + i * 1) 1 = some [d[i]] := by
 rw [Nat.zero_add, Nat.mul_one, l_whole hw _ _ ow, List.drop_eq_getElem_cons h1]
 rfl
def ptrs (m : Nat) (ps : List Nat) : List Value := ps.map fun o => .pointer (some ⟨m + 2, o, none⟩)
theorem ptrs_at {m : Nat} {ps : List Nat} {i : Nat} (h : i < (ptrs m ps).length) (h2 : i < ps.length) : (ptrs m ps)[i] = .pointer (some ⟨m + 2, ps[i], none⟩) := List.getElem_map ..
theorem ptrs_inj {m : Nat} : ∀ {ps ps' : List Nat}, ptrs m ps = ptrs m ps' -> ps = ps'
 | [], [], _ => rfl
 | [], _ :: _, h => by cases h
 | _ :: _, [], h => by cases h
 | o :: ps, o' :: ps', h => by
  simp only [ptrs, List.map_cons, List.cons.injEq, Value.pointer.injEq, Option.some.injEq, Addr.mk.injEq, true_and, and_true] at h
  rw [h.1, ptrs_inj h.2]
def R_cints : List Value -> AH -> Value -> AH -> Prop := fun args h v h' => ∀ K s l m a f d idt ps, args = [.slice (some ⟨idt, 0, none⟩) ps.length ps.length, .pointer (some ⟨m, 0, none⟩), .pointer (some ⟨m + 3, 0, none⟩), .pointer (some ⟨m + 5, 0, none⟩)] -> BV h.t K s l -> DH h.t m s a f d -> h.t.get idt = some (.row (ptrs m ps) idt BIG false (ptrs m ps).length) -> CLpost m (3 * l.length + 10) s a (itN (l.drop a.toNat)) (itE (l.drop a.toNat) ps.length) (if itE (l.drop a.toNat) ps.length = 0 then stI d ps (getL rdI (l.drop a.toNat)).1 else d) h.t h.next h.wr v h'
noncomputable def c_cints := cEx Tryz.prog 25 R_cints
theorem con_cints : Con Tryz.prog 25 c_cints := con_ex Tryz.func25 rfl
set_option maxHeartbeats 8000000
theorem cints_c {t : Tr AObj} {K : Nat -> Prop} {nx wr : Nat} {s : Value} {l : List Int} {m : Nat} {a f : Int} {d : List Value} {idt : Nat} {ps : List Nat} (hbv : BV t K s l) (hD : DH t m s a f d) (hT : t.get idt = some (.row (ptrs m ps) idt BIG false (ptrs m ps).length)) (hti : m + 6 <= idt) (htn : idt < nx) (hK : ∀ i, K i -> i < m) (hm : m + 6 <= nx) (hB : Byt l) (hb : l.length <= 4294967296) (h0 : 0 <= a) (h1 : a <= l.length) (hos : ∀ o ∈ ps, o + 1 <= d.length) (hol : ps.length <= 5) (hN : nx + 3 * l.length + 100 <= BIG) (hwr : wr <= BIG) : ∃ v h', c_cints [.slice (some ⟨idt, 0, none⟩) ps.length ps.length, .pointer (some ⟨m, 0, none⟩), .pointer (some ⟨m + 3, 0, none⟩), .pointer (some ⟨m + 5, 0, none⟩)] ⟨t, nx, wr⟩ = some (v, h') /\ CLpost m (3 * l.length + 10) s a (itN (l.drop a.toNat)) (itE (l.drop a.toNat) ps.length) (if itE (l.drop a.toNat) ps.length = 0 then stI d ps (getL rdI (l.drop a.toNat)).1 else d) t nx wr v h' := by
 have hP := Fits
 have hC : CallSound Tryz.prog (tabOf [(26, c_pti), (24, c_step)]) := tab_sound (tab_cons con_pti (tab_cons con_step tab_end))
 have hBd : Byt (l.drop a.toNat) := byt_drop hB _
 have hdl : (l.drop a.toNat).length = l.length - a.toNat := List.length_drop
 have hnr := itN_rng hBd
 have hpl : (ptrs m ps).length = ps.length := List.length_map ..
 suffices key : SureK Tryz.prog ⟨t, nx, wr⟩ _ [] _ (EndR Tryz.prog _ (R_cints [.slice (some ⟨idt, 0, none⟩) ps.length ps.length, .pointer (some ⟨m, 0, none⟩), .pointer (some ⟨m + 3, 0, none⟩), .pointer (some ⟨m + 5, 0, none⟩)] ⟨t, nx, wr⟩)) by
  obtain ⟨v, h', q, c⟩ := sure_start (R := R_cints) (sz := 40) Tryz.func25 rfl rfl zo key
  exact ⟨v, h', q, c K s l m a f d idt ps rfl hbv hD hT⟩
 obtain ⟨w, bw, hsl⟩ := x_sliceB (P := Tryz.prog) (T := 23) (lo := some (.tmp 13)) (hi := none) (i := a) (j := l.length) hbv u23 T.s5 ow ow ow (fun q => by cases q) (fun _ => rfl)
 rw [List.take_of_length_le (by rw [List.length_drop]; omega)] at bw
 refine s_seq (s_region hP hC (oA ?_))
 refine o_done (se_seq (s_seq (s_region hP hC ?_)))
 refine os (x_load1 rfl zt T.g23 (l_all (whole_row hD.fb rfl) rfl)) ?_
 refine os (x_load1 rfl zt T.g3 (l_all (whole_row hD.fi rfl) rfl)) ?_
 refine os (hsl rfl zt (fun a q => by cases q; exact zt) (fun a q => by cases q)) ?_
 refine oM ?_
 refine os (x_len rfl rfl zv rfl u60) ?_
 refine o_callR (tab_hitR (pti_c (m := ps.length) bw (fun i q => by have := hK i q; omega) hBd ow ow hwr)) (wA_none rfl) rfl rfl rfl zv zd (fun v1 h1 hR1 => ?_)
 obtain ⟨t1, nx1, wq1, rfl, hf1, w1, rfl, S1, aD⟩ := hR1
 have hx1 := hf1.same
 have q1 := hf1.le
 have q2 := hf1.hi
 have q3 := hf1.wlo
 have q4 := hf1.whi
 have hD1 := hD.keep (t' := t1) (fun i hi => hx1 i ow)
 have rD := aD.rds
 refine oM ?_
 refine os (x_extract rfl zt rfl) ?_
 refine os (x_extract rfl zt rfl) ?_
 refine os (x_extract rfl zt rfl) ?_
 refine oA ?_
 refine oA ?_
 refine oA ?_
 refine o_done (se_seq (s_seq (s_seq (s_region hP hC ?_))))
 refine os (x_load1 rfl zt T.g59 (l_all (whole_row hD1.fp rfl) rfl)) ?_
 refine oM ?_
 refine oM ?_
 refine o_callRC (tab_missR zd (tab_hitR (step_c (nx := nx1) (wr := wq1) hD1.fi hD1.ff ow ow (by show _ <= a + itN (l.drop a.toNat) /\ a + itN (l.drop a.toNat) <= _; omega) ow ow))) (wA_none rfl) rfl rfl rfl zt zv zd (fun v2 h2 hR2 => ?_)
 obtain ⟨t2, wq2, rfl, rfl, hi2, hf2, hx2, q5, q6⟩ := hR2
 have hD2 : DH t2 m s (a + itN (l.drop a.toNat)) (itE (l.drop a.toNat) ps.length) d := ⟨(hx2 _ ow ow).trans hD1.fb, (hx2 _ ow ow).trans hD1.fa, hi2, hf2, (hx2 _ ow ow).trans hD1.fp⟩
 have hT2 := (hx2 idt ow ow).trans ((hx1 idt htn).trans hT)
 refine os (x_not rfl zt) ?_
 refine o_done (se_seq ?_)
 refine s_cond zt (fun g3 => ?_) (fun g3 => ?_)
 ·have p3 := g3; try simp only [dd] at p3
  refine s_seq (s_region hP hC (oA ?_))
  refine o_done (se_seq ?_)
  refine s_ret ?_
  refine se_seq_ret ?_
  refine ⟨.inr rfl, _, (by simp only [Tryz.results25, resA, Tr.get_set, reduceIte, Nat.reduceEqDiff, Nat.reduceAdd, g3] <;> rfl), fun K' s2 l2 m2 a2 f2 d2 idt2 ps2 hs2 hb2 hD' hT' => ?_⟩
  simp only [List.cons.injEq, Value.slice.injEq, Value.pointer.injEq, Option.some.injEq, Addr.mk.injEq, and_true, true_and] at hs2
  obtain ⟨⟨rfl, hol2, _⟩, rfl, _⟩ := hs2
  obtain ⟨rfl, rfl, rfl, rfl⟩ := hD.uniq hD'
  have hl2 := hbv.uniq hb2
  have hos2 : ps2 = ps := by
   have e1 := Option.some.inj (hT.symm.trans hT')
   simp only [AObj.row.injEq, and_true, true_and] at e1
   exact (ptrs_inj e1.1).symm
  rw [hl2, hos2]
  first
   | (rw [if_neg (by assumption)]; exact ⟨_, _, _, rfl, by rw [decide_eq_false (by assumption)]; rfl, hD2, by show nx <= nx1; omega, by show nx1 <= nx + _; omega, by show min wr (m + 2) <= _; omega, by show _ <= wr; omega, fun i hi i1 i2 i3 => (hx2 i i2 i3).trans (hx1 i hi)⟩)
   | (have hti' : i.toNat = ps.length := by omega
      rw [hti', List.take_length, <-hxl, List.take_length] at hD3
      rw [if_pos he]; exact ⟨_, _, _, rfl, by rw [decide_eq_true he]; rfl, by rw [<-hxl]; exact hD3, by show nx <= nx1; omega, by show nx1 <= nx + _; omega, by show min wr (m + 2) <= _; omega, by show _ <= wr; omega, fun i hi i1 i2 i3 => (hx3 i i1).trans ((hx2 i i2 i3).trans (hx1 i hi))⟩)
 ·have p3 := g3; try simp only [dd] at p3
  refine s_skip (se_seq (s_seq (s_seq ?_)))
  have he : itE (l.drop a.toNat) ps.length = 0 := by assumption
  have hxl : (getL rdI (l.drop a.toNat)).1.length = ps.length := by have := (pt_zero he).2; omega
  refine s_region hP hC (oM ?_)
  refine os (x_lenD rD rfl rfl zv rfl u22) ?_
  refine os (x_move rfl (by rfl)) ?_
  refine o_done (se_seq (s_block ?_))
  refine s_loop (α := Int) (fun i s' => ∃ e t3 wq3, s' = ⟨e, 40, ⟨t3, nx1, wq3⟩⟩ /\ e.get 0 = some (.slice (some ⟨idt, 0, none⟩) ps.length ps.length) /\ e.get 26 = some (w1) /\ e.get 27 = some (.int .i64 (getL rdI (l.drop a.toNat)).1.length) /\ e.get 28 = some (.int .i64 i) /\ 0 <= i /\ i <= (getL rdI (l.drop a.toNat)).1.length /\ DH t3 m s (a + itN (l.drop a.toNat)) (itE (l.drop a.toNat) ps.length) (stI d (ps.take i.toNat) ((getL rdI (l.drop a.toNat)).1.take i.toNat)) /\ min wr (m + 2) <= wq3 /\ wq3 <= wr /\ (∀ j, j ≠ m + 2 -> t3.get j = t2.get j)) (fun i => ((getL rdI (l.drop a.toNat)).1.length - i).toNat) 0 ⟨_, _, _, rfl, zh, zh, zh, zh, by omega, by omega, hD2, by omega, by omega, fun _ _ => rfl⟩ ?_
  rintro i s' ⟨e, t3, wq3, rfl, heb0, heb26, heb27, heb28, i0, i1, hD3, w0, w1', hx3⟩
  refine s_seq (s_region hP hC ?_)
  refine os (x_bin rfl za za b_lss) ?_
  refine o_done (se_seq (s_seq ?_))
  refine s_cond za (fun g5 => ?_) (fun g5 => ?_)
  ·have p5 := g5; try simp only [dd] at p5
   refine s_skip (se_seq (s_seq (s_block (s_seq (s_region hP hC ?_)))))
   have hi1 : i.toNat < (getL rdI (l.drop a.toNat)).1.length := by omega
   have hi2 : i.toNat < ps.length := by omega
   have hi3 : i.toNat < (ptrs m ps).length := by omega
   have hos' : ∀ o ∈ ps.take i.toNat, o + 1 <= d.length := fun o ho => hos o (List.mem_of_mem_take ho)
   have hsl3 := stI_len (xs := (getL rdI (l.drop a.toNat)).1.take i.toNat) hos'
   have hoi := hos _ (List.getElem_mem hi2)
   have hone := getI_one _ (List.getElem_mem hi1)
   obtain ⟨idw, rfl, hww⟩ := own_cell (t' := t3) aD ow (fun x hx => (hx3 x ow).trans (hx2 x ow ow))
   have hpi : (ptrs m ps)[i.toNat] = .pointer (some ⟨m + 2, ps[i.toNat], none⟩) := ptrs_at hi3 hi2
   have hT3 := (hx3 idt ow).trans hT2
   refine oM ?_
   refine os (x_index rfl za za u22 T.s3 ow ow) ?_
   refine os (x_load1 rfl za T.g3 (l_nth (hww _ _) hi1)) ?_
   refine oA ?_
   refine oA ?_
   refine o_done (se_seq (s_region hP hC (oM ?_)))
   refine oM ?_
   refine os (x_index rfl za za u60 T.s64 ow ow) ?_
   refine os (x_load1 rfl za T.g64 ((l_nth (whole_row hT3 rfl) hi3).trans (by rw [hpi]))) ?_
   refine oM ?_
   refine os (x_nilCheck rfl za) ?_
   refine o_stepN (wA_none rfl) rfl (y_store1P rfl za za (one_cells hone) T.s3 hD3.fa rfl (by rw [hsl3]; exact hoi) hone (stI_next hi2 hi1)) ?_
   refine o_done (se_block (se_seq (s_region hP hC ?_)))
   refine os (x_bin rfl za (by rfl) b_add) ?_
   refine oM ?_
   refine o_done ?_
   refine se_loop ?_
   have hw1 : IntKind.i64.wrap (i + 1) = i + 1 := wr1 ow ow
   have e1 : (i + 1).toNat = i.toNat + 1 := by omega
   refine ⟨i + 1, ⟨_, _, _, rfl, za, za, za, (by simp only [Tr.get_set, reduceIte, Nat.reduceEqDiff, Nat.reduceAdd, hw1, heb0, heb26, heb27, heb28, g5] <;> rfl), by omega, by omega, by rw [e1]; exact ⟨by rw [gn ow]; exact hD3.fb, by rw [gp rfl], by rw [gn ow]; exact hD3.fi, by rw [gn ow]; exact hD3.ff, by rw [gn ow]; exact hD3.fp⟩, by omega, by omega, fun j hj => by rw [Tr.get_set, if_neg hj]; exact hx3 j hj⟩, by omega⟩
  ·have p5 := g5; try simp only [dd] at p5
   refine s_exit ?_
   refine se_seq_exit ?_
   refine se_loop_exit ?_
   refine se_block_eq (se_seq (s_seq (s_region hP hC (oA ?_))))
   refine o_done (se_seq ?_)
   refine s_ret ?_
   refine ⟨.inr rfl, _, (by simp only [Tryz.results25, resA, Tr.get_set, reduceIte, Nat.reduceEqDiff, Nat.reduceAdd, heb0, heb26, heb27, heb28, g5] <;> rfl), fun K' s2 l2 m2 a2 f2 d2 idt2 ps2 hs2 hb2 hD' hT' => ?_⟩
   simp only [List.cons.injEq, Value.slice.injEq, Value.pointer.injEq, Option.some.injEq, Addr.mk.injEq, and_true, true_and] at hs2
   obtain ⟨⟨rfl, hol2, _⟩, rfl, _⟩ := hs2
   obtain ⟨rfl, rfl, rfl, rfl⟩ := hD.uniq hD'
   have hl2 := hbv.uniq hb2
   have hos2 : ps2 = ps := by
    have e1 := Option.some.inj (hT.symm.trans hT')
    simp only [AObj.row.injEq, and_true, true_and] at e1
    exact (ptrs_inj e1.1).symm
   rw [hl2, hos2]
   first
    | (rw [if_neg (by assumption)]; exact ⟨_, _, _, rfl, by rw [decide_eq_false (by assumption)]; rfl, hD2, by show nx <= nx1; omega, by show nx1 <= nx + _; omega, by show min wr (m + 2) <= _; omega, by show _ <= wr; omega, fun i hi i1 i2 i3 => (hx2 i i2 i3).trans (hx1 i hi)⟩)
    | (have hti' : i.toNat = ps.length := by omega
       rw [hti', List.take_length, <-hxl, List.take_length] at hD3
       rw [if_pos he]; exact ⟨_, _, _, rfl, by rw [decide_eq_true he]; rfl, by rw [<-hxl]; exact hD3, by show nx <= nx1; omega, by show nx1 <= nx + _; omega, by show min wr (m + 2) <= _; omega, by show _ <= wr; omega, fun i hi i1 i2 i3 => (hx3 i i1).trans ((hx2 i i2 i3).trans (hx1 i hi))⟩)
end Go.Proofs.YtfgmplbclpadbaaGreatDoor
namespace Go.Proofs.YtfgmplbclpadbaaGreatDoor
open Go.AM
set_option maxRecDepth 100000
set_option maxHeartbeats 1000000
set_option maxHeartbeats 4000000
end Go.Proofs.YtfgmplbclpadbaaGreatDoor
