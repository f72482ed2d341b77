/-
  The law AnswerReads: her walk.
-/
import Derived.Test.YtfgmplbclpadbaaGreatDoorRWx
import Derived.Test.YtfgmplbclpadbaaGreatDoorRE6
set_option linter.unusedSimpArgs false
set_option linter.unusedVariables false
namespace Go.Proofs.YtfgmplbclpadbaaGreatDoor
open Go Go.AM
set_option linter.unusedVariables false
set_option linter.unusedSimpArgs false
def sSign : ByteArray := ⟨⟨[115, 105, 103, 110]⟩⟩
def Ans.sign (a : Ans) : Ans := { a with sg := sSign }
theorem Ans.sign_ok {a : Ans} (h : a.Ok) : a.sign.Ok := ⟨h.nums, h.pl, h.rl, h.pb, h.rb, h.tl, h.hl, by show sSign.size <= 1000000; decide⟩
theorem Ans.C_sign {a : Ans} (h : a.Ok) : splice a.C 45 [.string sSign] = a.sign.C := by
 rw [Ans.C_eq, Ans.C_eq]
 show splice ([.int .i64 a.w, .int .i64 a.q] ++ (a.X ++ (a.R ++ [.string a.sg]))) 45 _ = [.int .i64 a.w, .int .i64 a.q] ++ (a.X ++ (a.R ++ [.string sSign]))
 rw [<-List.append_assoc, <-List.append_assoc, <-List.append_assoc, <-List.append_assoc]
 have hl : (([Value.int .i64 a.w, .int .i64 a.q] ++ a.X) ++ a.R).length = 45 := by rw [List.length_append, List.length_append, Ans.X_len h, Ans.R_len h]; rfl
 have := splice_right (A := ([Value.int .i64 a.w, .int .i64 a.q] ++ a.X) ++ a.R) (B := [.string a.sg]) (vs := [.string sSign]) (n := 45) (j := 0) hl
 exact this
theorem splice_set {l : List Int} {x : Int} : ∀ {k : Nat}, k < l.length -> splice (bys l) k [.int .u8 x] = bys (l.set k x) := by
 intro k hk
 unfold splice
 rw [List.set_eq_take_append_cons_drop, if_pos hk]
 rw [<-bys_take, <-bys_drop, <-bys_one1, <-bys_append, <-bys_append, List.append_assoc]
 rfl
theorem byt_set {l : List Int} {x : Int} {k : Nat} (h : Byt l) (hx : 0 <= x /\ x < 256) : Byt (l.set k x) := fun y hy => by
 rcases List.mem_or_eq_of_mem_set hy with q | q
 ·exact h y q
 ·rw [q]; exact hx
theorem zeros16 : ∀ n : Nat, zerosC z16 n = bys (List.replicate (16 * n) 0)
 | 0 => rfl
 | n + 1 => by
  show z16 ++ zerosC z16 n = _
  rw [zeros16 n, Nat.mul_add, Nat.add_comm, <-List.replicate_append_replicate, bys_append]
  rfl
theorem byt_rep (n : Nat) : Byt (List.replicate n 0) := fun x hx => by rw [List.eq_of_mem_replicate hx]; decide
theorem y_mkZ {P : Program} {call : Call'} {e : Tr Value} {o : Oper} {T el : TypeId} {x y : Operand} {t : Tr AObj} {nx wr n by' sz : Nat} {z : Value} {zs : List Value} (ho : o.op = .makeSlice T x y) (hx : ev e x = some (.int .i64 n)) (hy : ev e y = some (.int .i64 n)) (hu : P.underlying T = some (.slice el)) (hz : (P.info? el).bind (·.zero) = some z) (hi : TyI P el sz by') (hb : n * by' <= 140737488355328) (hn : n < BIG) (hc : z.cells.toList = zs) (hl : zs.length = sz) (hs0 : 0 < sz) (hsn : sz <= 4096) (hf : free1 z = true) :
  doOp P call e ⟨t, nx, wr⟩ o = some (.slice (some ⟨nx, 0, none⟩) n n, ⟨t.set nx (.row (zerosC zs n) nx BIG false (zerosC zs n).length), nx + 1, wr⟩) := by
 obtain ⟨i, i1, i2, i3, i4⟩ := hi
 rw [i1] at hz
 have hz' : i.zero = some z := hz
 have h1 : z.cells.size = i.size := by rw [i2, <-Array.length_toList, hc, hl]
 rw [do_op (by rw [ho]; simp), ho]
 simp only [aop, hx, hy, hu, i1, hz']
 rw [if_pos ⟨by omega, Int.le_refl _, by omega, by rw [i3]; omega, h1, by omega, hf, by rw [i2]; omega⟩, if_pos trivial, hc]
 rfl
def AllB (t : Tr AObj) (nx : Nat) (vs : List Value) : Prop := ∀ j (h : j < vs.length), ∃ l, BV t (fun i => i < nx) vs[j] l /\ Byt l /\ l.length <= 5000000
theorem allB_nil {t : Tr AObj} {nx : Nat} : AllB t nx [] := fun j h => by cases h
theorem allB_cons {t : Tr AObj} {nx : Nat} {v : Value} {vs : List Value} {l : List Int} (h : BV t (fun i => i < nx) v l) (hB : Byt l) (hl : l.length <= 5000000) (hr : AllB t nx vs) : AllB t nx (v :: vs) := fun j hj => by
 cases j with
 | zero => exact ⟨l, h, hB, hl⟩
 | succ j => exact hr j (by simpa using hj)
theorem root_own {t : Tr AObj} {r id nx wr : Nat} {d : List Value} (h : OwnR t r id d) : rootOf ⟨t, nx, wr⟩ id = r := by
 obtain ⟨low, n0, _, hf, _⟩ := h.fam (nx := nx) (wr := wr)
 unfold rootOf
 rw [hf]
theorem own_bv {t : Tr AObj} {r id : Nat} {l : List Int} {K : Nat -> Prop} (h : OwnR t r id (bys l)) (hr : K r) (hi : K id) : BV t K (.slice (some ⟨id, 0, none⟩) l.length (l.length + 1)) l :=
 .inr ⟨id, 0, 0, rfl, fun t' nx' wr' hk => l_all ((h.keep (hk _ hi) (hk _ hr)).whole) (bys_len l).symm⟩
theorem msg1_byt {a : Ans} (h : Byt (encB a)) : Byt (msg1 a) := fun x hx => by
 refine h x ?_
 unfold encB msgB msg6 msg5 msg4 msg3 msg2
 simp only [List.append_assoc]
 exact List.mem_append_left _ hx
theorem meets_start {P : Program} {f : FuncId} {fn : Func} {c : Code} {args : List Value} {h : AH} {R : Value -> AH -> Prop} {sz : Nat} {e : Tr Value} (hfn : P.funcs[f]? = some fn) (hb : fn.body = some c) (hz : max args.length fn.ntmps = sz) (he : Tr.ofList args 0 .leaf = e)
  (k : SureK P h c [] ⟨e, sz, h⟩ (EndR P fn R)) : ∃ v h', Meets P (.func f) args h v h' /\ R v h' := by
 subst hz; subst he
 exact meets_sure hfn hb k
noncomputable def c_lives : List Value -> AH -> Option (Value × AH) := entC [e72]
theorem con_lives : Con Tryz.prog 13 c_lives := con_ents Tryz.func13 rfl (ents_cons ok72 ents_nil)
theorem lives_c {H : AH} : c_lives [] H = some (.bool true, H) := rfl
end Go.Proofs.YtfgmplbclpadbaaGreatDoor
namespace Go.Proofs.YtfgmplbclpadbaaGreatDoor
open Go.AM
set_option maxRecDepth 100000
set_option maxHeartbeats 1000000
set_option linter.unusedSimpArgs false
set_option linter.unusedVariables false
set_option maxHeartbeats 32000000
def LA (by_ : Int) (s_l s_raw : Value) (l raw : List Int) (st : St) : Prop := ∃ e t1 nx1 wq1 a idA idB rB idC bent k nF, st = ⟨e, 123, ⟨t1, nx1, wq1⟩⟩ /\ e.get 3 = some (.int .i64 by_) /\ e.get 4 = some (s_l) /\ e.get 5 = some (s_raw) /\ e.get 13 = some (.pointer (some ⟨idA, 0, none⟩)) /\ e.get 14 = some (.slice (some ⟨idB, 0, none⟩) (encB a).length ((encB a).length + 1)) /\ e.get 15 = some (.int .i64 k) /\ e.get 16 = some (.slice (some ⟨idC, 0, none⟩) (encB a).length ((encB a).length + 1)) /\ t1.get 0 = some (.row (ints l) 0 BIG true (ints l).length) /\ t1.get 1 = some (.row (bys raw) 1 BIG true (bys raw).length) /\ t1.get idA = some (.row a.C idA BIG false a.C.length) /\ OwnR t1 rB idB (bys (encB a)) /\ t1.get idC = some (.row (bys bent) idC BIG false (bys bent).length) /\ Ans.Ok a /\ bent.length = (encB a).length /\ Byt bent /\ 0 <= k /\ k < (encB a).length /\ 2 <= idA /\ idA < nF /\ 2 <= idB /\ idB < nF /\ 2 <= rB /\ rB < nF /\ 2 <= idC /\ idC < nF /\ nF = nx1 /\ nx1 <= 2500 /\ wq1 <= BIG
def LB (by_ : Int) (s_l s_raw : Value) (l raw : List Int) (st : St) : Prop := ∃ e t1 nx1 wq1 a idA idB rB idC bent k nF nG SF vF vH, st = ⟨e, 123, ⟨t1, nx1, wq1⟩⟩ /\ e.get 3 = some (.int .i64 by_) /\ e.get 4 = some (s_l) /\ e.get 5 = some (s_raw) /\ e.get 13 = some (.pointer (some ⟨idA, 0, none⟩)) /\ e.get 14 = some (.slice (some ⟨idB, 0, none⟩) (encB a).length ((encB a).length + 1)) /\ e.get 15 = some (.int .i64 k) /\ e.get 16 = some (.slice (some ⟨idC, 0, none⟩) (encB a).length ((encB a).length + 1)) /\ e.get 17 = some (vF) /\ e.get 18 = some (vH) /\ t1.get 0 = some (.row (ints l) 0 BIG true (ints l).length) /\ t1.get 1 = some (.row (bys raw) 1 BIG true (bys raw).length) /\ t1.get idA = some (.row a.C idA BIG false a.C.length) /\ OwnR t1 rB idB (bys (encB a)) /\ t1.get idC = some (.row (bys bent) idC BIG false (bys bent).length) /\ Ans.Ok a /\ bent.length = (encB a).length /\ Byt bent /\ 0 <= k /\ k < (encB a).length /\ 2 <= idA /\ idA < nF /\ 2 <= idB /\ idB < nF /\ 2 <= rB /\ rB < nF /\ 2 <= idC /\ idC < nF /\ AccP t1 nF nG SF 1 vF (intsB (l.take 6)).length (bys (intsB (l.take 6))) /\ BV t1 (fun i => nG <= i /\ i < nx1) vH (msg1 a) /\ nF <= nG /\ nG <= nx1 /\ nx1 <= 3500 /\ wq1 <= BIG
def LC (s_l s_raw : Value) (l raw : List Int) (st : St) : Prop := ∃ e t1 nx1 wq1 a idA idB rB idC bent k nF nG SF vF vH vO other, st = ⟨e, 123, ⟨t1, nx1, wq1⟩⟩ /\ e.get 4 = some (s_l) /\ e.get 5 = some (s_raw) /\ e.get 13 = some (.pointer (some ⟨idA, 0, none⟩)) /\ e.get 14 = some (.slice (some ⟨idB, 0, none⟩) (encB a).length ((encB a).length + 1)) /\ e.get 15 = some (.int .i64 k) /\ e.get 16 = some (.slice (some ⟨idC, 0, none⟩) (encB a).length ((encB a).length + 1)) /\ e.get 17 = some (vF) /\ e.get 18 = some (vH) /\ e.get 19 = some (vO) /\ t1.get 0 = some (.row (ints l) 0 BIG true (ints l).length) /\ t1.get 1 = some (.row (bys raw) 1 BIG true (bys raw).length) /\ t1.get idA = some (.row a.C idA BIG false a.C.length) /\ OwnR t1 rB idB (bys (encB a)) /\ t1.get idC = some (.row (bys bent) idC BIG false (bys bent).length) /\ Ans.Ok a /\ bent.length = (encB a).length /\ Byt bent /\ 0 <= k /\ k < (encB a).length /\ 2 <= idA /\ idA < nF /\ 2 <= idB /\ idB < nF /\ 2 <= rB /\ rB < nF /\ 2 <= idC /\ idC < nF /\ AccP t1 nF nG SF 1 vF (intsB (l.take 6)).length (bys (intsB (l.take 6))) /\ BV t1 (fun i => nG <= i /\ i < nx1) vH (msg1 a) /\ BV t1 (fun i => nG <= i /\ i < nx1) vO other /\ Byt other /\ other.length <= 4000000 /\ nF <= nG /\ nG <= nx1 /\ nx1 <= 4500 /\ wq1 <= BIG
def LD (st : St) : Prop := ∃ e t1 nx1 wq1 idL vs, st = ⟨e, 123, ⟨t1, nx1, wq1⟩⟩ /\ e.get 20 = some (.slice (some ⟨idL, 0, none⟩) 8 8) /\ t1.get idL = some (.row vs idL BIG false vs.length) /\ vs.length = 8 /\ idL < nx1 /\ AllB t1 nx1 vs /\ nx1 <= 5500 /\ wq1 <= BIG
theorem law_s {t : Tr AObj} {n m at_ by_ : Int} {s_l s_raw : Value} {l raw : List Int} (hn : inR n) (hm : inR m) (hat : inR at_) (hby : inR by_) (hsl : Sl 0 1 l.length s_l) (hsr : Sl 1 1 raw.length s_raw) (hl : ∀ x ∈ l, inR x) (hr : Byt raw) (hll : l.length <= 1000000000) (hrl : raw.length <= 4000000) (h0 : t.get 0 = some (.row (ints l) 0 BIG true (ints l).length)) (h1 : t.get 1 = some (.row (bys raw) 1 BIG true (bys raw).length)) : ∃ v h', Meets Tryz.prog (.func 3) [.int .i64 n, .int .i64 m, .int .i64 at_, .int .i64 by_, s_l, s_raw] ⟨t, 2, BIG⟩ v h' /\ v = .bool true := by
 have hP := Fits
 have hC : CallSound Tryz.prog (tabOf [(5, c_made), (6, c_enc), (7, c_around), (9, c_take), (8, c_ints), (10, c_digs), (11, c_dec), (12, c_rdec), (13, c_lives)]) := tab_sound (tab_cons con_made (tab_cons con_enc (tab_cons con_around (tab_cons con_take (tab_cons con_ints (tab_cons con_digs (tab_cons con_dec (tab_cons con_rdec (tab_cons con_lives tab_end)))))))))
 have hBIG : (1000000000000 : Nat) < BIG := by unfold BIG; omega
 suffices key : SureK Tryz.prog ⟨t, 2, BIG⟩ _ [] _ (EndR Tryz.prog _ (fun v h' => v = .bool true)) by
  exact meets_start (sz := 123) Tryz.func3 rfl rfl zo key
 refine s_seq (s_region hP hC (oA ?_))
 refine o_done (se_seq (s_seq (s_region hP hC (oM ?_))))
 refine oM ?_
 refine o_callR (tab_hitR (made_c hn hm ow (Nat.le_refl _))) (wA_none rfl) rfl rfl rfl zv zd (fun v0 q0 hR0 => ?_)
 obtain ⟨ta, na, wa, a0, rfl, hfa, rfl, ok0⟩ := hR0
 have fa1 := hfa.le
 have fa2 := hfa.hi
 have fa3 := hfa.whi
 have CL0 := Ans.C_len ok0
 have ok := Ans.sign_ok ok0
 have CL := Ans.C_len ok
 have g0 := (hfa.same 0 ow).trans h0
 have g1 := (hfa.same 1 ow).trans h1
 refine os (y_alloc rfl T.z35 rfl rfl) ?_
 refine o_stepN (wA_none rfl) rfl (y_storeA rfl zt zt T.s35 CL0 hg rfl rfl (cf_oneC (Ans.C_cf ok0))) ?_
 refine o_done (se_seq (s_seq (s_region hP hC ?_)))
 refine os (x_field (off' := 45) rfl zt u35 rfl T.s9 rfl) ?_
 refine o_stepN (wA_none rfl) rfl (y_store1P (off := 45) (d' := a0.sign.C) rfl zt (by rfl) rfl T.s9 hg rfl (by rw [CL0]; decide) rfl (Ans.C_sign ok0)) ?_
 refine o_done (se_seq (s_seq (s_region hP hC ?_)))
 refine os (x_loadA rfl zt T.g35 T.s35 (l_all (whole_row hg rfl) CL.symm)) ?_
 refine o_callR (tab_missR zd (tab_hitR (enc_c (nx := na + 1) ok ow ow))) (wA_none rfl) rfl rfl rfl zv zd (fun v1 q1 hR1 => ?_)
 obtain ⟨tb, nb, wb, rfl, hfb, SB, aB⟩ := hR1
 have fb1 := hfb.le
 have fb2 := hfb.hi
 have fb3 := hfb.whi
 obtain ⟨a, hae⟩ : ∃ a, a = a0.sign := ⟨_, rfl⟩
 rw [<-hae] at aB ok CL
 have ln := Ans.lens ok
 have l1 := ln.l1; have l2 := ln.l2; have l3 := ln.l3; have l4 := ln.l4; have l5 := ln.l5; have l6 := ln.l6; have l7 := ln.l7; have l8 := ln.l8
 have eI := encI1_len
 obtain ⟨idB, rB, hvB, oB, sB1, sB2⟩ : ∃ id r, v1 = .slice (some ⟨id, 0, none⟩) (encB a).length ((encB a).length + 1) /\ OwnR tb r id (bys (encB a)) /\ SB r /\ SB id := by
  rcases aB.acc with ⟨q, _⟩ | ⟨_, _, h⟩
  ·omega
  ·exact h
 subst hvB
 have oB1 := (aB.bnd _ sB1).2
 have oB2 := (aB.bnd _ sB2).2
 have oB3 := (aB.bnd _ sB1).1
 have oB4 := (aB.bnd _ sB2).1
 have gA : tb.get na = some (.row a.C na BIG false a.C.length) := (hfb.same na ow).trans (by rw [gp rfl, <-hae])
 have k0 : tb.get 0 = _ := (hfb.same 0 ow).trans ((by repeat rw [gn ow] : Tr.get _ 0 = ta.get 0).trans g0)
 have k1 : tb.get 1 = _ := (hfb.same 1 ow).trans ((by repeat rw [gn ow] : Tr.get _ 1 = ta.get 1).trans g1)
 refine oA ?_
 refine o_done (se_seq (s_seq (s_region hP hC (oM ?_))))
 refine oM ?_
 refine os (x_len rfl rfl zv rfl u23) ?_
 obtain ⟨k, hk⟩ : ∃ k, k = around at_ (encB a).length := ⟨_, rfl⟩
 have k2 := around_lo (n := at_) (m := ((encB a).length : Int)) ow
 have k3 := around_hi (n := at_) (m := ((encB a).length : Int)) ow
 rw [<-hk] at k2 k3
 refine o_call0 (wA_none rfl) rfl rfl rfl zv zd ?_
 refine ⟨_, _, (((tab_miss zd).trans ((tab_miss zd).trans (tab_hit.trans (around_c (by simp only [ok_around, Bool.and_eq_true, decide_eq_true_eq]; exact ⟨hat, by omega⟩))))).trans (by rw [<-hk])), ?_⟩
 refine oA ?_
 refine o_done (se_seq (s_seq (s_region hP hC ?_)))
 refine os (y_bslice0 rfl u23 T.s5 T.z5 zd rfl rfl) ?_
 refine oM ?_
 refine o_app0 (id := nb) (M := (encB a)) (by rw [gp rfl]) (cells_bv (own_bv (K := fun i => i < nb) (oB.keep (by rw [gn ow]) (by rw [gn ow])) oB1 oB2) u23 T.s5) (wA_none rfl) rfl rfl rfl zv rfl rfl zr u23 T.i23 zd ow ow ow (fun vC tc hvC gC aC hcs => ?_)
 subst hvC
 refine oA ?_
 refine o_done (se_seq (s_seq ?_))
 refine s_join (LA by_ s_l s_raw l raw) ?_ ?_
 ·skip
  refine s_region hP hC (oM ?_)
  refine oM ?_
  refine oM ?_
  refine os (x_convI rfl zt u3 u5) ?_
  refine os (x_index rfl zt zt u23 T.s5 ow ow) ?_
  refine o_stepN (wA_none rfl) rfl (y_store1P (off := 0 + k.toNat * 1) (d' := bys ((encB a).set k.toNat (IntKind.u8.wrap by_))) rfl zt zt rfl T.s5 gC rfl (by rw [bys_len]; omega) rfl (by rw [Nat.zero_add, Nat.mul_one]; exact splice_set ow)) ?_
  refine o_done ?_
  refine se_loop ?_
  exact ⟨_, _, _, _, a, na, idB, rB, nb + 1, (encB a).set k.toNat (IntKind.u8.wrap by_), k, _, rfl, (by (repeat (first | rw [gn ow] | rw [hcs _ ow])) <;> first | rfl | assumption | (rw [gp ow]; done) | (rw [gp ow]; rfl)), (by (repeat (first | rw [gn ow] | rw [hcs _ ow])) <;> first | rfl | assumption | (rw [gp ow]; done) | (rw [gp ow]; rfl)), (by (repeat (first | rw [gn ow] | rw [hcs _ ow])) <;> first | rfl | assumption | (rw [gp ow]; done) | (rw [gp ow]; rfl)), (by (repeat (first | rw [gn ow] | rw [hcs _ ow])) <;> first | rfl | assumption | (rw [gp ow]; done) | (rw [gp ow]; rfl)), (by (repeat (first | rw [gn ow] | rw [hcs _ ow])) <;> first | rfl | assumption | (rw [gp ow]; done) | (rw [gp ow]; rfl)), (by (repeat (first | rw [gn ow] | rw [hcs _ ow])) <;> first | rfl | assumption | (rw [gp ow]; done) | (rw [gp ow]; rfl)), (by (repeat (first | rw [gn ow] | rw [hcs _ ow])) <;> first | rfl | assumption | (rw [gp ow]; done) | (rw [gp ow]; rfl)), by (repeat rw [gn ow]); exact (hcs _ ow).trans (by (repeat rw [gn ow]); exact k0), by (repeat rw [gn ow]); exact (hcs _ ow).trans (by (repeat rw [gn ow]); exact k1), by (repeat rw [gn ow]); exact (hcs _ ow).trans (by (repeat rw [gn ow]); exact gA), oB.keep (by (repeat rw [gn ow]); exact (hcs _ ow).trans (by (repeat rw [gn ow]))) (by (repeat rw [gn ow]); exact (hcs _ ow).trans (by (repeat rw [gn ow]))), by rw [gp rfl], ok, List.length_set, byt_set ln.b8 (u8_rng by_), k2, k3, by omega, by omega, by omega, by omega, by omega, by omega, by omega, by omega, rfl, by omega, by omega⟩
 ·skip
  clear ok0 CL0 ok CL g0 g1 aB gA k0 k1 l1 l2 l3 l4 l5 l6 l7 l8 eI ln hfa hfb fa1 fa2 fa3 fb1 fb2 fb3 oB oB1 oB2 oB3 oB4 sB1 sB2 k2 k3 aC hcs gC
  rintro _ ⟨e, t1, nx1, wq1, a, idA, idB, rB, idC, bent, k, nF, rfl, he3, he4, he5, he13, he14, he15, he16, hh0, hh1, hhA, hhB, hhC, ok, hbl, hbB, kk0, kk1, iA0, iA1, iB0, iB1, rB0, rB1, iC0, iC1, hnF, nb1, wb1⟩
  subst hnF
  have ln := Ans.lens ok
  have l1 := ln.l1; have l2 := ln.l2; have l3 := ln.l3; have l4 := ln.l4; have l5 := ln.l5; have l6 := ln.l6; have l7 := ln.l7; have l8 := ln.l8
  have eI := encI1_len
  have CL := Ans.C_len ok
  refine s_seq (s_region hP hC (oM ?_))
  refine o_callR (tab_missR zd (tab_missR zd (tab_missR zd (tab_hitR (take_c (l := l) hsl hh0 hll))))) (wA_none rfl) rfl rfl rfl (by simp only [evs, ev_tmp, Tr.get_set, reduceIte, Nat.reduceEqDiff, Nat.reduceAdd, he3, he4, he5, he13, he14, he15, he16] <;> rfl) zd (fun v2 q2 hR2 => ?_)
  obtain ⟨td, nd, rfl, rT, fd1, fd2, hds⟩ := hR2
  have tl6 : (l.take 6).length <= 6 := by rw [List.length_take]; omega
  have hel6 : ∀ x ∈ l.take 6, inR x := fun x hx => hl x (List.mem_of_mem_take hx)
  have hi6 := intsB_hi hel6 ow
  refine o_callR (tab_missR zd (tab_missR zd (tab_missR zd (tab_missR zd (tab_hitR (ints_c (nx := nd) (l := l.take 6) (RdS.lv rT) hel6 ow ow ow)))))) (wA_none rfl) rfl rfl rfl (by simp only [evs, ev_tmp, Tr.get_set, reduceIte, Nat.reduceEqDiff, Nat.reduceAdd, he3, he4, he5, he13, he14, he15, he16] <;> rfl) zd (fun vF q3 hR3 => ?_)
  obtain ⟨te, ne, we, rfl, hfe, SF, aF⟩ := hR3
  have fe1 := hfe.le
  have fe2 := hfe.hi
  have fe3 := hfe.whi
  have aF2 := AccP.low aF fd1
  refine oA ?_
  refine o_done (se_seq (s_seq ?_))
  refine s_join (LB by_ s_l s_raw l raw) ?_ ?_
  ·skip
   refine s_region hP hC ?_
   refine os (x_field (off' := 0) rfl za u35 rfl T.s3 rfl) ?_
   refine os (x_load1 rfl za T.g3 (l_whole (d := a.C) (whole_row (by (repeat (first | rw [gn ow] | rw [hfe.same _ ow] | rw [hds _ ow])) <;> first | rfl | assumption | (rw [gp ow]; done) | (rw [gp ow]; rfl)) rfl) 0 1 (by rw [CL]; decide))) ?_
   refine os (x_field (off' := 1) rfl za u35 rfl T.s3 rfl) ?_
   refine os (x_load1 rfl za T.g3 (l_whole (d := a.C) (whole_row (by (repeat (first | rw [gn ow] | rw [hfe.same _ ow] | rw [hds _ ow])) <;> first | rfl | assumption | (rw [gp ow]; done) | (rw [gp ow]; rfl)) rfl) 1 1 (by rw [CL]; decide))) ?_
   refine os (y_bsliceN (cs := ints [a.w, a.q]) rfl (by simp only [evP, ev_tmp, Tr.get_set, reduceIte, Nat.reduceEqDiff, Nat.reduceAdd, he3, he4, he5, he13, he14, he15, he16] <;> rfl) u22 T.s3 T.z3 zd zd rfl rfl (by rfl)) ?_
   have him := intsB_hi (l := [a.w, a.q]) (fun x hx => by
    simp only [List.mem_cons, List.not_mem_nil, or_false] at hx
    rcases hx with rfl | rfl <;> exact ok.nums _ (by simp only [List.mem_cons, true_or, or_true])) (by show 2 <= 1000; decide)
   simp only [List.length_cons, List.length_nil] at him
   refine o_callR (tab_missR zd (tab_missR zd (tab_missR zd (tab_missR zd (tab_hitR (ints_c (nx := ne + 1) (l := [a.w, a.q]) (lv_row (id := ne) (d := ints [a.w, a.q]) (n := 2) (by (repeat (first | rw [gn ow] | rw [hfe.same _ ow] | rw [hds _ ow])) <;> first | rfl | assumption | (rw [gp ow]; done) | (rw [gp ow]; rfl)) ow rfl) (fun x hx => by
    simp only [List.mem_cons, List.not_mem_nil, or_false] at hx
    rcases hx with rfl | rfl <;> exact ok.nums _ (by simp only [List.mem_cons, true_or, or_true])) ow (by show _ + (62 * 2 + 70) + 100 <= BIG; omega) ow)))))) (wA_none rfl) rfl rfl rfl (by simp only [evs, ev_tmp, Tr.get_set, reduceIte, Nat.reduceEqDiff, Nat.reduceAdd, he3, he4, he5, he13, he14, he15, he16] <;> rfl) zd (fun vH q4 hR4 => ?_)
   obtain ⟨tg, ng, wg, rfl, hfg, SH, aH⟩ := hR4
   have fg1 := hfg.le
   have fg2 : ng <= ne + 1 + (62 * 2 + 70) := hfg.hi
   have fg3 := hfg.whi
   refine oA ?_
   refine o_done ?_
   refine se_loop ?_
   exact ⟨_, _, _, _, a, idA, idB, rB, idC, bent, k, nF, ne, SF, vF, vH, rfl, za, za, za, za, za, za, za, za, za, ((hfg.same _ ow).trans ((by rw [gn ow] : Tr.get _ 0 = te.get 0).trans ((hfe.same _ ow).trans (hds _ ow)))).trans hh0, ((hfg.same _ ow).trans ((by rw [gn ow] : Tr.get _ 1 = te.get 1).trans ((hfe.same _ ow).trans (hds _ ow)))).trans hh1, ((hfg.same _ ow).trans ((by rw [gn ow] : Tr.get _ idA = te.get idA).trans ((hfe.same _ ow).trans (hds _ ow)))).trans hhA, hhB.keep ((hfg.same _ ow).trans ((by rw [gn ow] : Tr.get _ idB = te.get idB).trans ((hfe.same _ ow).trans (hds _ ow)))) ((hfg.same _ ow).trans ((by rw [gn ow] : Tr.get _ rB = te.get rB).trans ((hfe.same _ ow).trans (hds _ ow)))), ((hfg.same _ ow).trans ((by rw [gn ow] : Tr.get _ idC = te.get idC).trans ((hfe.same _ ow).trans (hds _ ow)))).trans hhC, ok, hbl, hbB, kk0, kk1, iA0, iA1, iB0, iB1, rB0, rB1, iC0, iC1, ⟨(aF2.keep (nx' := ne) (Nat.le_refl _) (fun x q => (hfg.same x (by have := aF2.bnd x q; omega)).trans (by rw [Tr.get_set, if_neg (by have := aF2.bnd x q; omega)]))).acc, aF2.bnd⟩, (acc_bv aH).mono (fun i q => ⟨by have := aH.bnd i q; omega, (aH.bnd i q).2⟩), by omega, by omega, by omega, by omega⟩
  ·skip
   clear ln l1 l2 l3 l4 l5 l6 l7 l8 eI CL he3 he4 he5 he13 he14 he15 he16 hh0 hh1 hhA hhB hhC ok hbl hbB kk0 kk1 iA0 iA1 iB0 iB1 rB0 rB1 iC0 iC1 nb1 wb1 rT fd1 fd2 hds tl6 hel6 hi6 hfe fe1 fe2 fe3 aF aF2
   rintro _ ⟨e, t1, nx1, wq1, a, idA, idB, rB, idC, bent, k, nF, nG, SF, vF, vH, rfl, he3, he4, he5, he13, he14, he15, he16, he17, he18, hh0, hh1, hhA, hhB, hhC, ok, hbl, hbB, kk0, kk1, iA0, iA1, iB0, iB1, rB0, rB1, iC0, iC1, aF, bH, nG0, nG1, nb1, wb1⟩
   have ln := Ans.lens ok
   have l1 := ln.l1; have l2 := ln.l2; have l3 := ln.l3; have l4 := ln.l4; have l5 := ln.l5; have l6 := ln.l6; have l7 := ln.l7; have l8 := ln.l8
   have eI := encI1_len
   obtain ⟨aH', cH', hvH⟩ := bH.len
   subst hvH
   have hm1 := msg1_byt ln.b8
   refine s_seq ?_
   refine s_join (LC s_l s_raw l raw) ?_ ?_
   ·skip
    refine s_draw hP hC zr ?_
    refine ds (y_bslice0 rfl u23 T.s5 T.z5 zd rfl rfl) ?_
    refine dM ?_
    refine d_app0 (id := nx1) (M := msg1 a) (by rw [gp rfl]) (cells_bv (bH.keep (t' := t1.set nx1 (.row [] nx1 BIG false 0)) (fun i q => by rw [gn ow])) u23 T.s5) (wA_none rfl) rfl rfl rfl (by simp only [evs, ev_tmp, Tr.get_set, reduceIte, Nat.reduceEqDiff, Nat.reduceAdd, he3, he4, he5, he13, he14, he15, he16, he17, he18] <;> rfl) rfl rfl zr u23 T.i23 zd ow ow ow (fun vP tp hvP gP aP hps => ?_)
    subst hvP
    have hps1 : ∀ i, i < nx1 -> tp.get i = t1.get i := fun i q => (hps i ow).trans (by rw [gn ow])
    refine dM ?_
    have j0 := around_lo (n := by_) (m := 3) zd
    have j1 := around_hi (n := by_) (m := 3) zd
    obtain ⟨j3, hj3⟩ : ∃ j3 : Nat, (j3 : Int) = around by_ 3 := ⟨(around by_ 3).toNat, by omega⟩
    refine d_call0 (wA_none rfl) rfl rfl rfl (by simp only [evs, ev_tmp, Tr.get_set, reduceIte, Nat.reduceEqDiff, Nat.reduceAdd, he3, he4, he5, he13, he14, he15, he16, he17, he18] <;> rfl) zd ?_
    refine ⟨_, _, _, _, (((tab_miss zd).trans ((tab_miss zd).trans (tab_hit.trans (around_c (by simp only [ok_around, Bool.and_eq_true, decide_eq_true_eq]; exact ⟨hby, by decide⟩))))).trans (by rw [<-hj3])), ?_⟩
    refine ds (y_mkZ (n := j3) (zs := z16) rfl za za u42 T.z25 T.i42 ow ow rfl rfl zd zd rfl) ?_
    have hz16 := zeros16 j3
    have hzl : (List.replicate (16 * j3) (0 : Int)).length = j3 * 16 := by rw [List.length_replicate]; omega
    rw [hz16]
    have hjn := encI_len (n := (j3 : Int)) (by unfold inR; omega)
    have hD2 : (encI (j3 : Int) ++ List.replicate (16 * j3) 0).length = (encI (j3 : Int)).length + j3 * 16 := by rw [List.length_append, hzl]
    refine d_callR (tab_missR zd (tab_missR zd (tab_missR zd (tab_missR zd (tab_missR zd (tab_hitR (digs_c (nx := nx1 + 1 + 1 + 1) (n := j3) (l := List.replicate (16 * j3) 0) (lv_row (id := nx1 + 1 + 1) (d := bys (List.replicate (16 * j3) 0)) (by rw [gp rfl]) ow (by rw [bys_len, hzl])) ow ow (Nat.le_refl _)))))))) (wA_none rfl) rfl rfl rfl (by simp only [evs, ev_tmp, Tr.get_set, reduceIte, Nat.reduceEqDiff, Nat.reduceAdd, he3, he4, he5, he13, he14, he15, he16, he17, he18] <;> rfl) zd (fun vD tq nq wq hR5 => ?_)
    obtain ⟨tq2, nq2, wq2, hh5, hfq, SD, aD⟩ := hR5
    cases hh5
    have fq1 := hfq.le
    have fq2 := hfq.hi
    have fq3 := hfq.wlo
    have hqs : ∀ i, i < nx1 + 1 + 1 -> tq.get i = tp.get i := fun i q => (hfq.same i ow).trans (by rw [gn ow])
    refine d_appB aP (cells_bv (acc_bv aD) u23 T.s5) (wA_none rfl) rfl rfl rfl (by simp only [evs, ev_tmp, Tr.get_set, reduceIte, Nat.reduceEqDiff, Nat.reduceAdd, he3, he4, he5, he13, he14, he15, he16, he17, he18] <;> rfl) rfl rfl zr u23 T.i23 zd ow (fun x q => hqs x (by have := aP.bnd x q; omega)) ow ow (fun vR tr nr wr_ SR hR6 => ?_)
    have fr1 := hR6.le
    have fr2 := hR6.hi
    have fr3 := hR6.wlo
    have hrs : ∀ i, i < nx1 -> tr.get i = t1.get i := fun i q => (hR6.same i (fun z => by have := aP.bnd i z; omega) ow).trans ((hqs i ow).trans (hps1 i q))
    have aR := hR6.acc
    have hB9 := hhB.keep (t' := tr) (hrs _ ow) (hrs _ ow)
    have hL9 : (msg1 a ++ (encI (j3 : Int) ++ List.replicate (16 * j3) 0)).length = (msg1 a).length + (encI (j3 : Int) ++ List.replicate (16 * j3) 0).length := List.length_append
    refine dM ?_
    refine dM ?_
    refine ds (x_len rfl rfl (by simp only [evs, ev_tmp, Tr.get_set, reduceIte, Nat.reduceEqDiff, Nat.reduceAdd, he3, he4, he5, he13, he14, he15, he16, he17, he18] <;> rfl) rfl u23) ?_
    refine ds (x_bin rfl za (by rfl) (b_addR ow)) ?_
    obtain ⟨vS, bS, hsS⟩ := x_sliceB (P := Tryz.prog) (T := 23) (lo := some (.tmp 66)) (hi := none) (i := (msg1 a).length + 17) (j := (encB a).length) (own_bv (K := fun i => i < nx1) hB9 ow ow) u23 T.s5 ow ow ow (fun q => by cases q) (fun _ => rfl)
    refine ds (hsS rfl za (fun a q => by cases q; exact za) (fun a q => by cases q)) ?_
    obtain ⟨M9, hM9⟩ : ∃ M9, M9 = ((encB a).drop ((msg1 a).length + 17 : Int).toNat).take (((encB a).length : Int).toNat - ((msg1 a).length + 17 : Int).toNat) := ⟨_, rfl⟩
    rw [<-hM9] at bS
    have hM9l : M9.length <= (encB a).length := by rw [hM9, List.length_take, List.length_drop]; omega
    have hM9b : Byt M9 := by rw [hM9]; exact byt_take (byt_drop ln.b8 _) _
    refine d_appB aR (cells_bv bS u23 T.s5) (wA_none rfl) rfl rfl rfl (by simp only [evs, ev_tmp, Tr.get_set, reduceIte, Nat.reduceEqDiff, Nat.reduceAdd, he3, he4, he5, he13, he14, he15, he16, he17, he18] <;> rfl) rfl rfl zr u23 T.i23 zd ow (fun x q => rfl) ow ow (fun vO tu nu wu SO hR7 => ?_)
    have fu1 := hR7.le
    have fu2 := hR7.hi
    have fu3 := hR7.wlo
    have aO := hR7.acc
    have hus : ∀ i, i < nx1 -> tu.get i = t1.get i := fun i q => (hR7.same i (fun z => by have := aR.bnd i z; omega) ow).trans (hrs i q)
    have hL8 : ((msg1 a ++ (encI (j3 : Int) ++ List.replicate (16 * j3) 0)) ++ M9).length = (msg1 a ++ (encI (j3 : Int) ++ List.replicate (16 * j3) 0)).length + M9.length := List.length_append
    refine ds (x_assign rfl za) ?_
    refine d_done ⟨de_ok (tail_my (B := nx1) (Y := none) (M := [1, 0, 1, 0, 1, 1, 1, 2, 0, 0, 0, 0, 0, 2, 0]) (fw := 0) (my_op (my_w (my_ld (my_op (my_op (my_op (my_op (my_w (my_q (my_q (my_q (my_op (my_q (my_op (my_q my_nil ow) ow) ow) ow) ow) ow) ow) ow (fun y q => by cases q)) ow) ow) ow rfl rfl (by simp only [readId, ev_tmp, Tr.get_set, reduceIte, Nat.reduceEqDiff, Nat.reduceAdd, he3, he4, he5, he13, he14, he15, he16, he17, he18] <;> rfl)) ow) (show readId _ (Op.slice 23 (.tmp 63) (some (.tmp 66)) none none) = _ from by simp only [readId, ev_tmp, Tr.get_set, reduceIte, Nat.reduceEqDiff, Nat.reduceAdd, he3, he4, he5, he13, he14, he15, he16, he17, he18] <;> rfl) ow ow (by rw [root_own hB9]; omega) ow (by rw [root_own hB9]; omega)) ow (fun y q => by cases q)) ow) zd zr) (by try dsimp only; omega) (by try dsimp only; omega), ?_⟩
    refine se_loop ?_
    exact ⟨_, _, _, _, a, idA, idB, rB, idC, bent, k, nF, nG, SF, vF, _, _, _, rfl, za, za, za, za, za, za, za, za, za, (hus _ ow).trans hh0, (hus _ ow).trans hh1, (hus _ ow).trans hhA, hhB.keep (hus _ ow) (hus _ ow), (hus _ ow).trans hhC, ok, hbl, hbB, kk0, kk1, iA0, iA1, iB0, iB1, rB0, rB1, iC0, iC1, aF.keep (Nat.le_refl _) (fun x q => hus x (by have := aF.bnd x q; omega)), (bH.keep (t' := tu) (fun i q => hus i q.2)).mono (fun i q => ⟨q.1, by omega⟩), (acc_bv aO).mono (fun i q => ⟨by have := aO.bnd i q; omega, (aO.bnd i q).2⟩), byt_app (byt_app hm1 (byt_app (enc_byt (by unfold inR; omega)) (byt_rep _))) hM9b, by omega, by omega, by omega, by omega, by (try dsimp only); omega⟩
   ·skip
    clear ln l1 l2 l3 l4 l5 l6 l7 l8 eI hm1 he3 he4 he5 he13 he14 he15 he16 he17 he18 hh0 hh1 hhA hhB hhC ok hbl hbB kk0 kk1 iA0 iA1 iB0 iB1 rB0 rB1 iC0 iC1 aF bH nG0 nG1 nb1 wb1
    rintro _ ⟨e, t1, nx1, wq1, a, idA, idB, rB, idC, bent, k, nF, nG, SF, vF, vH, vO, other, rfl, he4, he5, he13, he14, he15, he16, he17, he18, he19, hh0, hh1, hhA, hhB, hhC, ok, hbl, hbB, kk0, kk1, iA0, iA1, iB0, iB1, rB0, rB1, iC0, iC1, aF, bH, bO, hOB, hOl, nG0, nG1, nb1, wb1⟩
    have ln := Ans.lens ok
    have l1 := ln.l1; have l2 := ln.l2; have l3 := ln.l3; have l4 := ln.l4; have l5 := ln.l5; have l6 := ln.l6; have l7 := ln.l7; have l8 := ln.l8
    have eI := encI1_len
    have tl6 : (l.take 6).length <= 6 := by rw [List.length_take]; omega
    have hi6 := intsB_hi (l := l.take 6) (fun x hx => hl x (List.mem_of_mem_take hx)) ow
    have hm1 := msg1_byt ln.b8
    obtain ⟨aF', cF', hvF⟩ := (acc_bv aF).len
    obtain ⟨aO', cO', hvO⟩ := bO.len
    obtain ⟨aR', cR', hvR⟩ := hsr.shape
    subst hvO
    have bR := bv_sl (K := fun i => i = 1) hsr rfl hh1
    have bB := own_bv (K := fun i => i < nF) hhB ow ow
    have bC : BV t1 (fun i => i < nF) (.slice (some ⟨idC, 0, none⟩) (encB a).length ((encB a).length + 1)) bent := by rw [<-hbl]; exact bv_row iC1 hhC
    refine s_seq ?_
    refine s_join (LD) ?_ ?_
    ·skip
     refine s_drawP (l := [0, 1, 2, 3, 4, 5, 6, 7, 9, 8, 10, 11, 12, 13, 14, 15, 16]) hP hC zr zr ?_
     refine dM ?_
     refine dM ?_
     refine dM ?_
     obtain ⟨vK, bK, hsK⟩ := x_sliceB (P := Tryz.prog) (T := 23) (lo := none) (hi := some (.tmp 71)) (i := 0) (j := k) bB u23 T.s5 ow ow ow (fun _ => rfl) (fun q => by cases q)
     refine ds (hsK rfl za (fun a q => by cases q) (fun a q => by cases q; exact za)) ?_
     obtain ⟨lK, hlK⟩ : ∃ lK, lK = ((encB a).drop (0 : Int).toNat).take (k.toNat - (0 : Int).toNat) := ⟨_, rfl⟩
     rw [<-hlK] at bK
     have hKl : lK.length <= (encB a).length := by rw [hlK, List.length_take, List.length_drop]; omega
     have hKb : Byt lK := by rw [hlK]; exact byt_take (byt_drop ln.b8 _) _
     obtain ⟨aK', cK', hvK⟩ := bK.len
     subst hvK
     refine dM ?_
     refine dM ?_
     refine dM ?_
     refine dM ?_
     refine ds (y_bslice0 rfl u23 T.s5 T.z5 zd rfl rfl) ?_
     have hYa : (t1.set nx1 (.row [] nx1 BIG false 0)).get nx1 = some (.row [] nx1 BIG false 0) := by rw [gp rfl]
     have k10 : ∀ i, i < nx1 -> (t1.set nx1 (.row [] nx1 BIG false 0)).get i = t1.get i := fun i q => by rw [gn ow]
     refine d_appB aF (cells_bv (bB.keep (t' := (t1.set nx1 (.row [] nx1 BIG false 0))) (fun i q => k10 i ow)) u23 T.s5) (wA_none rfl) rfl rfl rfl (by simp only [evs, ev_tmp, Tr.get_set, reduceIte, Nat.reduceEqDiff, Nat.reduceAdd, he4, he5, he13, he14, he15, he16, he17, he18, he19] <;> rfl) rfl rfl zr u23 T.i23 zd ow (fun x q => k10 x (by have := aF.bnd x q; omega)) ow ow (fun v7 tx nx_ wx S7 hX7 => ?_)
     have fx1 := hX7.le
     have fx2 := hX7.hi
     have fx3 := hX7.wlo
     have a7 := hX7.acc
     have hYb : tx.get nx1 = some (.row [] nx1 BIG false 0) := (hX7.same nx1 (fun q => by have := aF.bnd _ q; omega) ow).trans hYa
     have hxs : ∀ i, (i < nF \/ nG <= i) -> i < nx1 -> tx.get i = t1.get i := fun i q z => (hX7.same i (fun y => by have := aF.bnd i y; omega) ow).trans (k10 i z)
     have bF := hX7.old
     have hS7 : ∀ x, S7 x -> nF <= x /\ x < nx_ := a7.bnd
     have hS7n : ∀ x, S7 x -> x ≠ nx1 := fun x q => by
      rcases hX7.sub x q with z | z
      ·have := aF.bnd x z; omega
      ·omega
     have hA7l : (intsB (l.take 6) ++ (encB a)).length = (intsB (l.take 6)).length + (encB a).length := List.length_append
     refine dM ?_
     refine d_app0 (id := nx1) (M := msg1 a) hYb (cells_bv (bH.keep (t' := tx) (fun i q => hxs i (.inr q.1) q.2)) u23 T.s5) (wA_none rfl) rfl rfl rfl (by simp only [evs, ev_tmp, Tr.get_set, reduceIte, Nat.reduceEqDiff, Nat.reduceAdd, he4, he5, he13, he14, he15, he16, he17, he18, he19] <;> rfl) rfl rfl zr u23 T.i23 zd ow ow ow (fun v8 ty_ hv8 g8 a8 hys => ?_)
     subst hv8
     have hYc := (hys nx1 ow).trans hYb
     refine dM ?_
     refine d_appB a8 (cells_bv (bF.keep (t' := ty_) (fun i q => hys i (hS7 i q).2)) u23 T.s5) (wA_none rfl) rfl rfl rfl (by simp only [evs, ev_tmp, Tr.get_set, reduceIte, Nat.reduceEqDiff, Nat.reduceAdd, he4, he5, he13, he14, he15, he16, he17, he18, he19] <;> rfl) rfl rfl zr u23 T.i23 zd ow (fun x q => rfl) ow ow (fun v9 tz nz wz S9 hZ9 => ?_)
     have fz1 := hZ9.le
     have fz2 := hZ9.hi
     have fz3 := hZ9.wlo
     have a9 := hZ9.acc
     have hzs : ∀ i, i < nx_ -> tz.get i = ty_.get i := fun i q => hZ9.same i (fun y => by have := a8.bnd i y; omega) ow
     have hYd := (hzs nx1 ow).trans hYc
     have hzz : ∀ i, (i < nF \/ nG <= i) -> i < nx1 -> tz.get i = t1.get i := fun i q z => (hzs i ow).trans ((hys i ow).trans (hxs i q z))
     have hA9l : (msg1 a ++ intsB (l.take 6)).length = (msg1 a).length + (intsB (l.take 6)).length := List.length_append
     have b7 := acc_bv a7
     have b9 := acc_bv a9
     obtain ⟨a7', c7', hv7⟩ := b7.len
     obtain ⟨a9', c9', hv9⟩ := b9.len
     subst hv7
     subst hv9
     subst hvR
     refine dM ?_
     refine ds (y_bsliceN (cs := [.slice (some ⟨idB, 0, none⟩) (encB a).length ((encB a).length + 1), .slice aK' lK.length cK', .slice (some ⟨idC, 0, none⟩) (encB a).length ((encB a).length + 1), .slice aR' raw.length cR', .slice a7' (intsB (l.take 6) ++ encB a).length c7', .slice a9' (msg1 a ++ intsB (l.take 6)).length c9', .slice aO' other.length cO', .slice none 0 0]) rfl (by simp only [evP, ev_tmp, Tr.get_set, reduceIte, Nat.reduceEqDiff, Nat.reduceAdd, he4, he5, he13, he14, he15, he16, he17, he18, he19] <;> rfl) u43 T.s23 T.z23 zd zd rfl rfl (by rfl)) ?_
     refine ds (x_assign rfl za) ?_
     refine d_done ⟨de_ok (tail_my (B := nF) (Y := (some nx1)) (M := [0, 0, 0, 0, 0, 0, 0, 0, 3, 2, 0, 1, 0, 2, 0, 1, 0]) (fw := 9) (my_op (my_q (my_op (my_w (my_op (my_q (my_op (my_w (my_f (y := 0) (my_op (my_op (my_op (my_op (my_ld (my_op (my_op (my_op my_nil ow) ow) ow) (show readId _ (Op.slice 23 (.tmp 70) none (some (.tmp 71)) none) = _ from by simp only [readId, ev_tmp, Tr.get_set, reduceIte, Nat.reduceEqDiff, Nat.reduceAdd, he4, he5, he13, he14, he15, he16, he17, he18, he19] <;> rfl) ow ow (by rw [root_own hhB]; omega) ow (by rw [root_own hhB]; omega)) ow) ow) ow) ow) rfl ow) ow (fun y q => by cases q; exact sameO_row hYa hYb (by intro v hv; cases hv))) ow) ow) ow) ow (fun y q => by cases q; exact sameO_row hYc hYd (by intro v hv; cases hv))) ow) ow) ow) zd zr) (by try dsimp only; omega) (by try dsimp only; omega), ?_⟩
     refine se_loop ?_
     exact ⟨_, _, _, _, nz, [.slice (some ⟨idB, 0, none⟩) (encB a).length ((encB a).length + 1), .slice aK' lK.length cK', .slice (some ⟨idC, 0, none⟩) (encB a).length ((encB a).length + 1), .slice aR' raw.length cR', .slice a7' (intsB (l.take 6) ++ encB a).length c7', .slice a9' (msg1 a ++ intsB (l.take 6)).length c9', .slice aO' other.length cO', .slice none 0 0], rfl, za, by rw [gp rfl], rfl, by omega, (allB_cons ((bB.keep (t' := tz.set nz _) (fun i q => by rw [gn ow]; exact hzz i (.inl q) ow)).mono (fun i q => by omega)) (ln.b8) ow (allB_cons ((bK.keep (t' := tz.set nz _) (fun i q => by rw [gn ow]; exact hzz i (.inl q) ow)).mono (fun i q => by omega)) (hKb) ow (allB_cons ((bC.keep (t' := tz.set nz _) (fun i q => by rw [gn ow]; exact hzz i (.inl q) ow)).mono (fun i q => by omega)) (hbB) ow (allB_cons ((bR.keep (t' := tz.set nz _) (fun i q => by rw [gn ow]; exact hzz i (.inl ow) ow)).mono (fun i q => by omega)) (hr) ow (allB_cons ((b7.keep (t' := tz.set nz _) (fun i q => by have := hS7 i q; rw [gn ow]; exact (hzs i ow).trans (hys i ow))).mono (fun i q => by have := hS7 i q; omega)) (byt_app hi6.2.2 ln.b8) ow (allB_cons ((b9.keep (t' := tz.set nz _) (fun i q => by have := a9.bnd i q; rw [gn ow])).mono (fun i q => by have := a9.bnd i q; omega)) (byt_app hm1 hi6.2.2) ow (allB_cons ((bO.keep (t' := tz.set nz _) (fun i q => by rw [gn ow]; exact hzz i (.inr q.1) ow)).mono (fun i q => by omega)) (hOB) ow (allB_cons (.inl ⟨rfl, rfl⟩) byt_nil zd allB_nil)))))))), by omega, by (try dsimp only); omega⟩
    ·skip
     clear ln l1 l2 l3 l4 l5 l6 l7 l8 eI tl6 hi6 hm1 he4 he5 he13 he14 he15 he16 he17 he18 he19 bR bB bC hh0 hh1 hhA hhB hhC ok hbl hbB kk0 kk1 iA0 iA1 iB0 iB1 rB0 rB1 iC0 iC1 aF bH bO hOB hOl nG0 nG1 nb1 wb1
     rintro _ ⟨e, t1, nx1, wq1, idL, vs, rfl, he20, hgL, hvl, hiL, hAB, nb1, wb1⟩
     refine s_seq (s_seq (s_region hP hC (oA ?_)))
     refine o_done (se_seq (s_block ?_))
     refine s_loop (α := Int) (fun i s' => ∃ e t2 nx2 wq2, s' = ⟨e, 123, ⟨t2, nx2, wq2⟩⟩ /\ e.get 20 = some (.slice (some ⟨idL, 0, none⟩) 8 8) /\ e.get 21 = some (.int .i64 i) /\ 0 <= i /\ i <= 8 /\ nx1 <= nx2 /\ nx2 <= nx1 + 400000000 * i.toNat /\ wq2 <= BIG /\ (∀ id, id < nx1 -> t2.get id = t1.get id)) (fun i => (8 - i).toNat) 0 ⟨_, _, _, _, rfl, za, za, by omega, by omega, by omega, by omega, wb1, fun _ _ => rfl⟩ ?_
     rintro i s' ⟨e, t2, nx2, wq2, rfl, hea20, hea21, i0, i1, n0, n1, w1, hx2⟩
     refine s_seq (s_seq (s_region hP hC (oM ?_)))
     refine oM ?_
     refine os (x_len rfl rfl (by simp only [evs, ev_tmp, Tr.get_set, reduceIte, Nat.reduceEqDiff, Nat.reduceAdd, hea20, hea21] <;> rfl) rfl u43) ?_
     refine os (x_bin rfl za za b_lss) ?_
     refine o_done (se_seq ?_)
     refine s_cond za (fun g2 => ?_) (fun g2 => ?_)
     ·have p2 := g2; try simp only [dd] at p2
      refine s_skip (se_seq (s_seq (s_block (s_seq (s_region hP hC (oM ?_))))))
      refine oM ?_
      have hij : i.toNat < vs.length := by omega
      obtain ⟨lj, bj, hjB, hjl⟩ := hAB i.toNat hij
      have bj2 := bj.keep (t' := t2) (fun x q => hx2 x q)
      obtain ⟨dj, nj, ej, hdj, hcj⟩ := dec_ex hjB
      have hcl := cf_len hcj
      have hjl2 : lj.length <= 4294967296 := by omega
      refine os (x_index rfl za za u43 T.s23 ow ow) ?_
      refine os (x_load1 rfl za T.g23 (l_nth (whole_row (by (repeat (first | rw [gn ow] | rw [hx2 _ ow])) <;> first | rfl | assumption | (rw [gp ow]; done) | (rw [gp ow]; rfl)) rfl) hij)) ?_
      refine o_callR (tab_missR zd (tab_missR zd (tab_missR zd (tab_missR zd (tab_missR zd (tab_missR zd (tab_hitR (dec_c (nx := nx2) bj2 (fun x q => by have : x < nx1 := q; omega) hjB hjl2 ow ow)))))))) (wA_none rfl) rfl rfl rfl (by simp only [evs, ev_tmp, Tr.get_set, reduceIte, Nat.reduceEqDiff, Nat.reduceAdd, hea20, hea21, g2] <;> rfl) zd (fun v5 q5 hR5 => ?_)
      obtain ⟨t5, nx5, wq5, rfl, hf5, hv5⟩ := hR5
      obtain rfl := hv5.trans hdj
      have fa1 := hf5.le
      have fa2 := hf5.hi
      have fa3 := hf5.whi
      have hx5 : ∀ id, id < nx1 -> t5.get id = t1.get id := fun id q => (hf5.same id ow).trans (hx2 id q)
      refine oM ?_
      refine os (x_extract rfl za rfl) ?_
      refine os (x_extract rfl za rfl) ?_
      refine os (x_extract rfl za rfl) ?_
      refine os (y_alloc rfl T.z35 rfl rfl) ?_
      refine o_stepN (wA_none rfl) rfl (y_storeA rfl za za T.s35 hcl (by (repeat (first | rw [gn ow] | rw [hx5 _ ow])) <;> first | rfl | assumption | (rw [gp ow]; done) | (rw [gp ow]; rfl)) rfl rfl (cf_oneC hcj)) ?_
      refine oA ?_
      refine oA ?_
      refine o_done (se_seq (s_seq (s_region hP hC (oM ?_))))
      refine oM ?_
      refine os (x_index rfl za za u43 T.s23 ow ow) ?_
      refine os (x_load1 rfl za T.g23 (l_nth (whole_row (by (repeat (first | rw [gn ow] | rw [hx5 _ ow])) <;> first | rfl | assumption | (rw [gp ow]; done) | (rw [gp ow]; rfl)) rfl) hij)) ?_
      have bj3 := bj.keep (t' := (t5.set nx5 (.row dj nx5 BIG false dj.length))) (fun x q => by have : x < nx1 := q; rw [gn ow]; exact hx5 x q)
      refine o_callR (tab_missR zd (tab_missR zd (tab_missR zd (tab_missR zd (tab_missR zd (tab_missR zd (tab_missR zd (tab_hitR (rdec_c (nx := nx5 + 1) (bj.keep (fun x q => by have : x < nx1 := q; (repeat rw [gn ow]); exact hx5 x q)) (fun x q => by have : x < nx1 := q; omega) hjB hjl2 ow ow))))))))) (wA_none rfl) rfl rfl rfl (by simp only [evs, ev_tmp, Tr.get_set, reduceIte, Nat.reduceEqDiff, Nat.reduceAdd, hea20, hea21, g2] <;> rfl) zd (fun v6 q6 hR6 => ?_)
      obtain ⟨t6, nx6, wq6, rfl, hf6, hv6⟩ := hR6
      obtain rfl := hv6.trans hdj
      have fb1 := hf6.le
      have fb2 := hf6.hi
      have fb3 := hf6.whi
      have hx6 : ∀ id, id < nx1 -> t6.get id = t1.get id := fun id q => (hf6.same id ow).trans (by (repeat rw [gn ow]); exact hx5 id q)
      have h22 : t6.get nx5 = some (.row dj nx5 BIG false dj.length) := (hf6.same nx5 ow).trans (by rw [gp rfl])
      refine oM ?_
      refine os (x_extract rfl za rfl) ?_
      refine os (x_extract rfl za rfl) ?_
      refine os (x_extract rfl za rfl) ?_
      refine os (y_alloc rfl T.z35 rfl rfl) ?_
      refine o_stepN (wA_none rfl) rfl (y_storeA rfl za za T.s35 hcl (by (repeat (first | rw [gn ow] | rw [hx6 _ ow])) <;> first | rfl | assumption | (rw [gp ow]; done) | (rw [gp ow]; rfl)) rfl rfl (cf_oneC hcj)) ?_
      refine oA ?_
      refine oA ?_
      refine o_done (se_seq (s_seq (s_region hP hC ?_)))
      refine os (x_loadA rfl za T.g35 T.s35 (l_all (whole_row (by (repeat (first | rw [gn ow] | rw [hx6 _ ow])) <;> first | rfl | assumption | (rw [gp ow]; done) | (rw [gp ow]; rfl)) rfl) hcl.symm)) ?_
      refine os (x_loadA rfl za T.g35 T.s35 (l_all (whole_row (by (repeat (first | rw [gn ow] | rw [hx6 _ ow])) <;> first | rfl | assumption | (rw [gp ow]; done) | (rw [gp ow]; rfl)) rfl) hcl.symm)) ?_
      refine os (x_bin (u := .bool false) rfl za za (by rw [b_neqA (d := 20) zd T.f35 T.g35 T.q35 hcj hcj, (eqCs_iff hcj).2 rfl]; rfl)) ?_
      refine oM ?_
      refine o_step (wA_on rfl rfl zw) rfl (x_move rfl za) zd ?_
      refine o_step (wA_on rfl rfl zw) rfl (x_move rfl za) zd ?_
      refine o_step (wA_on rfl rfl zw) rfl (x_bin (u := .bool false) rfl za za (by rw [b_neq, decide_eq_true rfl]; rfl)) zd ?_
      refine os (x_pick rfl zw zb) ?_
      refine oM ?_
      refine o_step (wA_on rfl rfl zw) rfl (x_move rfl za) zd ?_
      refine o_step (wA_on rfl rfl zw) rfl (x_move rfl za) zd ?_
      refine o_step (wA_on rfl rfl zw) rfl (x_bin (u := .bool false) rfl za za (by rw [b_neq, decide_eq_true rfl]; rfl)) zd ?_
      refine os (x_pick rfl zw zb) ?_
      refine o_done (se_seq ?_)
      refine s_condF za ?_
      refine s_skip (se_block (se_seq (s_region hP hC (oM ?_))))
      refine os (x_bin rfl za (by rfl) b_add) ?_
      refine oA ?_
      refine o_done ?_
      refine se_loop ?_
      have hw1 : IntKind.i64.wrap (i + 1) = i + 1 := wr1 ow ow
      have e1 : (i + 1).toNat = i.toNat + 1 := by omega
      refine ⟨i + 1, ⟨_, _, _, _, rfl, za, (by simp only [Tr.get_set, reduceIte, Nat.reduceEqDiff, Nat.reduceAdd, hw1, hea20, hea21, g2] <;> rfl), by omega, by omega, by omega, by rw [e1]; omega, by (try dsimp only); omega, fun id hid => by (repeat (first | rw [gn ow] | rw [hx6 _ ow])) <;> first | rfl | assumption | (rw [gp ow]; done) | (rw [gp ow]; rfl)⟩, by omega⟩
     ·have p2 := g2; try simp only [dd] at p2
      refine s_exit ?_
      refine se_seq_exit ?_
      refine se_loop_exit ?_
      refine se_block_eq (se_seq (s_seq (s_region hP hC ?_)))
      refine o_call0 (wA_none rfl) rfl rfl rfl (by simp only [evs, ev_tmp, Tr.get_set, reduceIte, Nat.reduceEqDiff, Nat.reduceAdd, hea20, hea21, g2] <;> rfl) zd ?_
      refine ⟨_, _, ((tab_miss zd).trans ((tab_miss zd).trans ((tab_miss zd).trans ((tab_miss zd).trans ((tab_miss zd).trans ((tab_miss zd).trans ((tab_miss zd).trans ((tab_miss zd).trans (tab_hit.trans lives_c))))))))), ?_⟩
      refine oA ?_
      refine o_done (se_seq ?_)
      refine s_ret ?_
      refine ⟨.inr rfl, _, (by simp only [Tryz.results3, resA, Tr.get_set, reduceIte, Nat.reduceEqDiff, Nat.reduceAdd, hea20, hea21, g2] <;> rfl), rfl⟩
end Go.Proofs.YtfgmplbclpadbaaGreatDoor
