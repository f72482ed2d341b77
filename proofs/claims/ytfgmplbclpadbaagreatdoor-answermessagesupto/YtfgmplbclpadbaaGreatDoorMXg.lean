/-
  Short of the reference.
-/
import Derived.Test.YtfgmplbclpadbaaGreatDoorMLh
import Derived.Test.YtfgmplbclpadbaaGreatDoorMWx
import Derived.Test.YtfgmplbclpadbaaGreatDoorMXe
set_option linter.unusedSimpArgs false
set_option linter.unusedVariables false
namespace Go.Proofs.YtfgmplbclpadbaaGreatDoor
open Go.AM
set_option maxRecDepth 100000
set_option maxHeartbeats 1000000
set_option maxHeartbeats 8000000
theorem q_sliceT {P : Program} {T : TypeId} {s : ByteArray} {k : Int} (hu : P.underlying T = some .string) (h0 : 0 <= k) (h1 : k <= s.size) : quick P (Instr.sliceAt T (.string s) none (some (.int .i64 k)) none) = some (.string (s.extract 0 k.toNat)) := by
 have hb : quick P (Instr.sliceBounds false s.size s.size none (some (.int .i64 k)) none) = some (0, k.toNat, s.size) := by
  unfold Instr.sliceBounds
  simp only [Bool.false_eq_true, if_false]
  rw [quick_bind]
  show (quick P (Pure.pure s.size)).bind _ = _
  rw [show quick P (Pure.pure s.size) = some s.size from rfl, Option.bind_some, quick_bind]
  have e : quick P (Instr.sliceBound (.int .i64 k) s.size .sliceAlen) = some k.toNat := by
   unfold Instr.sliceBound
   rw [quick_bind, show quick P (asIntOf (.int .i64 k)) = some (IntKind.i64, k) from rfl, Option.bind_some]
   simp only
   rw [if_pos ⟨h0, h1⟩]
   rfl
  rw [e]
  rfl
 unfold Instr.sliceAt
 rw [quick_bind, run_und hu, Option.bind_some]
 show quick P (Instr.slice T (.string s) none (some (.int .i64 k)) none) = _
 unfold Instr.slice
 rw [quick_bind, run_und hu, Option.bind_some]
 show quick P (Instr.sliceBounds false s.size s.size none (some (.int .i64 k)) none >>= fun b => Pure.pure (Value.string (s.extract b.1 b.2.1))) = _
 rw [quick_bind, hb]
 rfl
theorem x_sliceT {P : Program} {call : Call'} {e : Tr Value} {h : AH} {o : Oper} {T : TypeId} {x y : Operand} {s : ByteArray} {k : Int} (ho : o.op = .slice T x none (some y) none) (hx : ev e x = some (.string s)) (hy : ev e y = some (.int .i64 k)) (hu : P.underlying T = some .string) (h0 : 0 <= k) (h1 : k <= s.size) : doOp P call e h o = some (.string (s.extract 0 k.toNat), h) := by
 rw [do_op (by rw [ho]; simp), ho]
 simp only [aop, hx, evO, hy, Option.map_some, q_sliceT hu h0 h1]
 rfl
def shortS (s : ByteArray) : ByteArray := if 40 < (s.size : Int) then s.extract 0 40 else s
theorem shortS_size (s : ByteArray) : (shortS s).size <= 40 := by
 unfold shortS
 split
 ·rw [ByteArray.size_extract]; omega
 ·omega
def R_short : List Value -> AH -> Value -> AH -> Prop := fun args h v h' => ∀ s, args = [.string s, .int .i64 40] -> ∃ t' nx' wr', h' = ⟨t', nx', wr'⟩ /\ Fr h.t h.next h.wr t' nx' wr' 0 /\ v = .string (shortS s)
noncomputable def c_short := cEx Tryz.prog 14 R_short
theorem con_short : Con Tryz.prog 14 c_short := con_ex Tryz.func14 rfl
theorem short_c {t : Tr AObj} {nx wr : Nat} {s : ByteArray} (hN : nx + 100 <= BIG) (hwr : wr <= BIG) : ∃ v h', c_short [.string s, .int .i64 40] ⟨t, nx, wr⟩ = some (v, h') /\ ∃ t' nx' wr', h' = ⟨t', nx', wr'⟩ /\ Fr t nx wr t' nx' wr' 0 /\ v = .string (shortS s) := by
 have hP := Fits
 have hC : CallSound Tryz.prog (tabOf []) := tab_sound tab_end
 have hF0 : Fr t nx wr t nx wr 0 := Fr.refl
 suffices key : SureK Tryz.prog ⟨t, nx, wr⟩ _ [] _ (EndR Tryz.prog _ (R_short [.string s, .int .i64 40] ⟨t, nx, wr⟩)) by
  obtain ⟨v, h', q, c⟩ := sure_start (R := R_short) (sz := 13) Tryz.func14 rfl rfl zo key
  exact ⟨v, h', q, c s rfl⟩
 refine s_seq (s_region hP hC (oA ?_))
 refine o_done (se_seq (s_seq (s_seq (s_region hP hC (oM ?_)))))
 refine os (x_lenT rfl rfl zv rfl u9) ?_
 refine oM ?_
 refine os (x_bin rfl zt zt b_gtr) ?_
 refine o_done (se_seq ?_)
 refine s_cond zt (fun g2 => ?_) (fun g2 => ?_)
 ·have p2 := g2; try simp only [dd] at p2
  refine s_seq (s_region hP hC (oM ?_))
  refine oM ?_
  refine os (x_sliceT rfl zt zt u9 zd ow) ?_
  refine oA ?_
  refine o_done (se_seq ?_)
  refine s_ret ?_
  refine se_seq_ret ?_
  refine ⟨.inr rfl, _, (by simp only [Tryz.results14, resA, Tr.get_set, reduceIte, Nat.reduceEqDiff, Nat.reduceAdd, g2] <;> rfl), fun s2 hs2 => ?_⟩
  cases hs2
  exact ⟨_, _, _, rfl, Fr.refl, by unfold shortS; first | (rw [if_pos ow]; rfl) | (rw [if_neg ow]; rfl)⟩
 ·have p2 := g2; try simp only [dd] at p2
  refine s_skip (se_seq (s_seq (s_region hP hC (oM ?_))))
  refine oA ?_
  refine o_done (se_seq ?_)
  refine s_ret ?_
  refine ⟨.inr rfl, _, (by simp only [Tryz.results14, resA, Tr.get_set, reduceIte, Nat.reduceEqDiff, Nat.reduceAdd, g2] <;> rfl), fun s2 hs2 => ?_⟩
  cases hs2
  exact ⟨_, _, _, rfl, Fr.refl, by unfold shortS; first | (rw [if_pos ow]; rfl) | (rw [if_neg ow]; rfl)⟩
end Go.Proofs.YtfgmplbclpadbaaGreatDoor
namespace Go.Proofs.YtfgmplbclpadbaaGreatDoor
open Go.AM
set_option maxRecDepth 100000
set_option maxHeartbeats 1000000
set_option maxHeartbeats 8000000
structure Rs where
 o : Int
 si : Int
 st : Int
 al : Int
 wa : Int
 wh : ByteArray
 rt : List Int
def Rs.C (r : Rs) : List Value := [.int .i64 r.o, .string r.wh, .int .i64 r.si, .int .i64 r.st, .int .i64 r.al, .int .i64 r.wa] ++ bys r.rt
structure Rs.Ok (r : Rs) : Prop where
 nums : ∀ x ∈ [r.o, r.si, r.st, r.al, r.wa], inR x
 rl : r.rt.length = 16
 rb : Byt r.rt
theorem Rs.C_len {r : Rs} (h : r.Ok) : r.C.length = 22 := by
 unfold Rs.C; rw [List.length_append, bys_len, h.rl]; rfl
theorem Rs.C_one (r : Rs) : r.C.all oneC = true := by
 unfold Rs.C; rw [List.all_append, bys_one]; rfl
theorem Rs.C_inj {a b : Rs} (h : a.C = b.C) : a = b := by
 obtain ⟨o, si, st, al, wa, wh, rt⟩ := a
 obtain ⟨o', si', st', al', wa', wh', rt'⟩ := b
 unfold Rs.C at h
 simp only [List.cons_append, List.nil_append, List.cons.injEq, Value.int.injEq, Value.string.injEq, true_and] at h
 obtain ⟨rfl, rfl, rfl, rfl, rfl, rfl, h⟩ := h
 have := bys_inj h
 subst this
 rfl
theorem wrap_inR (x : Int) : inR (IntKind.i64.wrap x) := by
 unfold inR IntKind.wrap
 simp [IntKind.bits, IntKind.signed]
 omega
theorem tmod5 (x : Int) : inR (x.tmod 5) := by
 unfold inR
 rcases Int.le_total 0 x with h | h
 ·rw [Int.tmod_eq_emod_of_nonneg h]; omega
 ·have e : x.tmod 5 = -((-x).tmod 5) := by rw [Int.neg_tmod, Int.neg_neg]
  rw [e, Int.tmod_eq_emod_of_nonneg ow]; omega
section
variable {r : Rs} {h : AH} {id : Nat}
theorem Rs.l_n (ok : r.Ok) (hw : Whole h id r.C) (j : Nat) (v : Value) (hl : j < 6) (hj : [Value.int .i64 r.o, .string r.wh, .int .i64 r.si, .int .i64 r.st, .int .i64 r.al, .int .i64 r.wa][j]? = some v) : loadC h id j 1 = some [v] := by
 rw [l_whole hw _ _ (by rw [Rs.C_len ok]; omega)]
 unfold Rs.C
 match j, hl, hj with
 | 0, _, hj => cases hj; rfl
 | 1, _, hj => cases hj; rfl
 | 2, _, hj => cases hj; rfl
 | 3, _, hj => cases hj; rfl
 | 4, _, hj => cases hj; rfl
 | 5, _, hj => cases hj; rfl
theorem Rs.l_b (ok : r.Ok) (hw : Whole h id r.C) {i : Int} (h0 : 0 <= i) (h1 : i < 16) : loadC h id (6 + i.toNat * 1) 1 = some [.int .u8 (ith r.rt i)] := by
 have hl := ok.rl
 rw [l_whole hw _ _ (by rw [Rs.C_len ok]; omega)]
 unfold Rs.C
 rw [<-List.drop_drop, List.drop_left' (by rfl), Nat.mul_one, bys_at ow]
 rfl
end
theorem Rs.mkOk {r : Rs} (h1 : inR r.o) (h2 : inR r.si) (h3 : inR r.st) (h4 : inR r.al) (h5 : inR r.wa) (h6 : r.rt.length = 16) (h7 : Byt r.rt) : r.Ok := ⟨fun x hx => by
 simp only [List.mem_cons, List.not_mem_nil, or_false] at hx
 rcases hx with rfl | rfl | rfl | rfl | rfl <;> assumption, h6, h7⟩
def sX : ByteArray := ⟨⟨[120]⟩⟩
theorem Rs.set_b {r : Rs} {i x : Int} (h0 : 0 <= i) (h1 : i < r.rt.length) : splice r.C (6 + i.toNat * 1) [.int .u8 x] = ({ r with rt := r.rt.set i.toNat x } : Rs).C := by
 unfold Rs.C
 rw [splice_right (by rfl), Nat.mul_one, splice_set ow]
def R_wrong : List Value -> AH -> Value -> AH -> Prop := fun args h v h' => ∀ (r : Rs) n m, args = [.agg ⟨r.C⟩, .int .i64 n, .int .i64 m] -> r.Ok -> ∃ t' nx' wr', ∃ r' : Rs, h' = ⟨t', nx', wr'⟩ /\ Fr h.t h.next h.wr t' nx' wr' 2 /\ v = .agg ⟨r'.C⟩ /\ r'.Ok /\ r'.wh.size <= r.wh.size + 1
noncomputable def c_wrong := cEx Tryz.prog 45 R_wrong
theorem con_wrong : Con Tryz.prog 45 c_wrong := con_ex Tryz.func45 rfl
theorem wrong_c {t : Tr AObj} {nx wr : Nat} {r : Rs} {n m : Int} (ok : r.Ok) (hn : inR n) (hm : inR m) (hws : r.wh.size <= 2000000) (hN : nx + 100 <= BIG) (hwr : wr <= BIG) : ∃ v h', c_wrong [.agg ⟨r.C⟩, .int .i64 n, .int .i64 m] ⟨t, nx, wr⟩ = some (v, h') /\ ∃ t' nx' wr', ∃ r' : Rs, h' = ⟨t', nx', wr'⟩ /\ Fr t nx wr t' nx' wr' 2 /\ v = .agg ⟨r'.C⟩ /\ r'.Ok /\ r'.wh.size <= r.wh.size + 1 := by
 have hP := Fits
 have hC : CallSound Tryz.prog (tabOf [(7, c_around)]) := tab_sound (tab_cons con_around tab_end)
 have hF0 : Fr t nx wr t nx wr 0 := Fr.refl
 have CL := Rs.C_len ok
 have rl := ok.rl; have rb := ok.rb
 have q1 : inR r.o := ok.nums _ (by simp only [List.mem_cons, true_or, or_true])
 have q2 : inR r.si := ok.nums _ (by simp only [List.mem_cons, true_or, or_true])
 have q3 : inR r.st := ok.nums _ (by simp only [List.mem_cons, true_or, or_true])
 have q4 : inR r.al := ok.nums _ (by simp only [List.mem_cons, true_or, or_true])
 have q5 : inR r.wa := ok.nums _ (by simp only [List.mem_cons, true_or, or_true])
 have a0 : 0 <= around m 16 := around_lo zd
 have a1 : around m 16 < 16 := around_hi zd
 suffices key : SureK Tryz.prog ⟨t, nx, wr⟩ _ [] _ (EndR Tryz.prog _ (R_wrong [.agg ⟨r.C⟩, .int .i64 n, .int .i64 m] ⟨t, nx, wr⟩)) by
  obtain ⟨v, h', q, c⟩ := sure_start (R := R_wrong) (sz := 80) Tryz.func45 rfl rfl zo key
  exact ⟨v, h', q, c r n m rfl ok⟩
 refine s_seq (s_region hP hC ?_)
 refine os (y_boxA rfl zt) ?_
 refine os (y_alloc rfl T.z33 rfl rfl) ?_
 refine o_done (se_seq (s_seq (s_seq (s_region hP hC (oM ?_)))))
 refine o_call0 (wA_none rfl) rfl rfl rfl zv zd ?_
 refine ⟨_, _, (tab_hit.trans (around_c (by simp only [ok_around, Bool.and_eq_true, decide_eq_true_eq]; exact ⟨hn, by decide⟩))), ?_⟩
 refine o_done (se_seq ?_)
 refine s_join (fun s' => ∃ e t1 wq1, ∃ r' : Rs, s' = ⟨e, 80, ⟨t1, nx + 1 + 1, wq1⟩⟩ /\ e.get 3 = some (.pointer (some ⟨nx, 0, none⟩)) /\ e.get 6 = some (.pointer (some ⟨nx + 1, 0, none⟩)) /\ t1.get nx = some (.row r'.C nx BIG false r'.C.length) /\ (∃ z, t1.get (nx + 1) = some (.row z (nx + 1) BIG false 22) /\ z.length = 22) /\ r'.Ok /\ r'.wh.size <= r.wh.size + 1 /\ min wr nx <= wq1 /\ wq1 <= wr /\ (∀ i, i < nx -> t1.get i = t.get i)) ?_ ?_
 ·skip
  refine s_block (s_seq (s_region hP hC ?_))
  refine os (x_bin rfl zt (by rfl) b_eql) ?_
  refine oA ?_
  refine o_done (se_seq ?_)
  refine s_cond zt (fun g2 => ?_) (fun g2 => ?_)
  ·have p2 := g2; try simp only [dd] at p2
   refine s_draw hP hC zr ?_
   refine ds (x_field (off' := 0) rfl zt u33 rfl T.s3 rfl) ?_
   refine ds (x_load1 rfl zt T.g3 (Rs.l_n ok (whole_row hg rfl) 0 _ zd rfl)) ?_
   refine ds (x_bin rfl zt (by rfl) b_add) ?_
   refine dM ?_
   refine d_call0 (wA_none rfl) rfl rfl rfl zv zd ?_
   refine ⟨_, _, _, _, (tab_hit.trans (around_c (by simp only [ok_around, Bool.and_eq_true, decide_eq_true_eq]; exact ⟨hm, by decide⟩))), ?_⟩
   refine ds (x_bin rfl zt zt b_add) ?_
   refine ds (x_bin rfl zt (by rfl) (b_rem zd)) ?_
   refine ds (x_field (off' := 0) rfl zt u33 rfl T.s3 rfl) ?_
   refine d_stepN (wA_none rfl) rfl (y_store1P (off := 0) (d' := ({ r with o := (IntKind.i64.wrap (IntKind.i64.wrap (r.o + 1) + around m 4)).tmod 5 } : Rs).C) rfl zt zt rfl T.s3 hg rfl (by rw [CL]; omega) rfl rfl) ?_
   refine d_done ⟨de_ok (tail_my (B := 0) (Y := none) (M := [1, 1, 1, 1, 1, 1, 1, 1, 2]) (fw := 0) (my_w (my_q (my_q (my_q (my_q (my_q (my_q (my_q (my_q my_nil ow) ow) ow) ow) ow) ow) ow) ow) ow (fun y q => by cases q)) zd zr) (by try dsimp only; omega) (by try dsimp only; omega), ?_⟩
   refine se_block ?_
   refine se_loop ?_
   exact ⟨_, _, _, ({ r with o := (IntKind.i64.wrap (IntKind.i64.wrap (r.o + 1) + around m 4)).tmod 5 } : Rs), rfl, zh, zh, by (repeat (first | rw [gn ow])) <;> first | rfl | assumption | (rw [gp ow]; done) | (rw [gp ow]; rfl), ⟨_, by (repeat (first | rw [gn ow])) <;> first | rfl | assumption | (rw [gp ow]; done) | (rw [gp ow]; rfl), rfl⟩, (Rs.mkOk (tmod5 _) q2 q3 q4 q5 rl rb), (Nat.le_succ _), by omega, by omega, fun i hi => by (repeat (first | rw [gn ow])) <;> first | rfl | assumption | (rw [gp ow]; done) | (rw [gp ow]; rfl)⟩
  ·have p2 := g2; try simp only [dd] at p2
   refine s_seq (s_region hP hC ?_)
   refine os (x_bin rfl zt (by rfl) b_eql) ?_
   refine oA ?_
   refine o_done (se_seq ?_)
   refine s_cond zt (fun g4 => ?_) (fun g4 => ?_)
   ·have p4 := g4; try simp only [dd] at p4
    refine s_region hP hC ?_
    refine os (x_field (off' := 1) rfl zt u33 rfl T.s9 rfl) ?_
    refine os (x_load1 rfl zt T.g9 (Rs.l_n ok (whole_row hg rfl) 1 _ zd rfl)) ?_
    refine os (x_bin rfl zt (by rfl) (b_addS (by show r.wh.size + 1 <= _; omega))) ?_
    refine os (x_field (off' := 1) rfl zt u33 rfl T.s9 rfl) ?_
    refine o_stepN (wA_none rfl) rfl (y_store1P (off := 1) (d' := ({ r with wh := r.wh ++ sX } : Rs).C) rfl zt zt rfl T.s9 hg rfl (by rw [CL]; omega) rfl rfl) ?_
    refine o_done (se_block ?_)
    refine se_loop ?_
    exact ⟨_, _, _, ({ r with wh := r.wh ++ sX } : Rs), rfl, zh, zh, by (repeat (first | rw [gn ow])) <;> first | rfl | assumption | (rw [gp ow]; done) | (rw [gp ow]; rfl), ⟨_, by (repeat (first | rw [gn ow])) <;> first | rfl | assumption | (rw [gp ow]; done) | (rw [gp ow]; rfl), rfl⟩, (Rs.mkOk q1 q2 q3 q4 q5 rl rb), (by show (r.wh ++ sX).size <= _; rw [ByteArray.size_append]; exact Nat.le_refl _), by omega, by omega, fun i hi => by (repeat (first | rw [gn ow])) <;> first | rfl | assumption | (rw [gp ow]; done) | (rw [gp ow]; rfl)⟩
   ·have p4 := g4; try simp only [dd] at p4
    refine s_seq (s_region hP hC ?_)
    refine os (x_bin rfl zt (by rfl) b_eql) ?_
    refine oA ?_
    refine o_done (se_seq ?_)
    refine s_cond zt (fun g6 => ?_) (fun g6 => ?_)
    ·have p6 := g6; try simp only [dd] at p6
     refine s_draw hP hC zr ?_
     refine ds (x_field (off' := 2) rfl zt u33 rfl T.s3 rfl) ?_
     refine ds (x_load1 rfl zt T.g3 (Rs.l_n ok (whole_row hg rfl) 2 _ zd rfl)) ?_
     refine ds (x_bin rfl zt (by rfl) b_add) ?_
     refine dM ?_
     refine d_call0 (wA_none rfl) rfl rfl rfl zv zd ?_
     refine ⟨_, _, _, _, (tab_hit.trans (around_c (by simp only [ok_around, Bool.and_eq_true, decide_eq_true_eq]; exact ⟨hm, by decide⟩))), ?_⟩
     refine ds (x_bin rfl zt zt b_add) ?_
     refine ds (x_field (off' := 2) rfl zt u33 rfl T.s3 rfl) ?_
     refine d_stepN (wA_none rfl) rfl (y_store1P (off := 2) (d' := ({ r with si := IntKind.i64.wrap (IntKind.i64.wrap (r.si + 1) + around m 3) } : Rs).C) rfl zt zt rfl T.s3 hg rfl (by rw [CL]; omega) rfl rfl) ?_
     refine d_done ⟨de_ok (tail_my (B := 0) (Y := none) (M := [1, 1, 1, 1, 1, 1, 1, 2]) (fw := 0) (my_w (my_q (my_q (my_q (my_q (my_q (my_q (my_q my_nil ow) ow) ow) ow) ow) ow) ow) ow (fun y q => by cases q)) zd zr) (by try dsimp only; omega) (by try dsimp only; omega), ?_⟩
     refine se_block ?_
     refine se_loop ?_
     exact ⟨_, _, _, ({ r with si := IntKind.i64.wrap (IntKind.i64.wrap (r.si + 1) + around m 3) } : Rs), rfl, zh, zh, by (repeat (first | rw [gn ow])) <;> first | rfl | assumption | (rw [gp ow]; done) | (rw [gp ow]; rfl), ⟨_, by (repeat (first | rw [gn ow])) <;> first | rfl | assumption | (rw [gp ow]; done) | (rw [gp ow]; rfl), rfl⟩, (Rs.mkOk q1 (wrap_inR _) q3 q4 q5 rl rb), (Nat.le_succ _), by omega, by omega, fun i hi => by (repeat (first | rw [gn ow])) <;> first | rfl | assumption | (rw [gp ow]; done) | (rw [gp ow]; rfl)⟩
    ·have p6 := g6; try simp only [dd] at p6
     refine s_seq (s_region hP hC ?_)
     refine os (x_bin rfl zt (by rfl) b_eql) ?_
     refine oA ?_
     refine o_done (se_seq ?_)
     refine s_cond zt (fun g8 => ?_) (fun g8 => ?_)
     ·have p8 := g8; try simp only [dd] at p8
      refine s_draw hP hC zr ?_
      refine ds (x_field (off' := 3) rfl zt u33 rfl T.s31 rfl) ?_
      refine ds (x_field (off' := 3) rfl zt u31 rfl T.s3 rfl) ?_
      refine ds (x_load1 rfl zt T.g3 (Rs.l_n ok (whole_row hg rfl) 3 _ zd rfl)) ?_
      refine ds (x_bin rfl zt (by rfl) b_add) ?_
      refine dM ?_
      refine d_call0 (wA_none rfl) rfl rfl rfl zv zd ?_
      refine ⟨_, _, _, _, (tab_hit.trans (around_c (by simp only [ok_around, Bool.and_eq_true, decide_eq_true_eq]; exact ⟨hm, by decide⟩))), ?_⟩
      refine ds (x_bin rfl zt zt b_add) ?_
      refine ds (x_field (off' := 3) rfl zt u33 rfl T.s31 rfl) ?_
      refine ds (x_field (off' := 3) rfl zt u31 rfl T.s3 rfl) ?_
      refine d_stepN (wA_none rfl) rfl (y_store1P (off := 3) (d' := ({ r with st := IntKind.i64.wrap (IntKind.i64.wrap (r.st + 1) + around m 3) } : Rs).C) rfl zt zt rfl T.s3 hg rfl (by rw [CL]; omega) rfl rfl) ?_
      refine d_done ⟨de_ok (tail_my (B := 0) (Y := none) (M := [1, 1, 1, 1, 1, 1, 1, 1, 1, 2]) (fw := 0) (my_w (my_q (my_q (my_q (my_q (my_q (my_q (my_q (my_q (my_q my_nil ow) ow) ow) ow) ow) ow) ow) ow) ow) ow (fun y q => by cases q)) zd zr) (by try dsimp only; omega) (by try dsimp only; omega), ?_⟩
      refine se_block ?_
      refine se_loop ?_
      exact ⟨_, _, _, ({ r with st := IntKind.i64.wrap (IntKind.i64.wrap (r.st + 1) + around m 3) } : Rs), rfl, zh, zh, by (repeat (first | rw [gn ow])) <;> first | rfl | assumption | (rw [gp ow]; done) | (rw [gp ow]; rfl), ⟨_, by (repeat (first | rw [gn ow])) <;> first | rfl | assumption | (rw [gp ow]; done) | (rw [gp ow]; rfl), rfl⟩, (Rs.mkOk q1 q2 (wrap_inR _) q4 q5 rl rb), (Nat.le_succ _), by omega, by omega, fun i hi => by (repeat (first | rw [gn ow])) <;> first | rfl | assumption | (rw [gp ow]; done) | (rw [gp ow]; rfl)⟩
     ·have p8 := g8; try simp only [dd] at p8
      refine s_seq (s_region hP hC ?_)
      refine os (x_bin rfl zt (by rfl) b_eql) ?_
      refine oA ?_
      refine o_done (se_seq ?_)
      refine s_cond zt (fun g10 => ?_) (fun g10 => ?_)
      ·have p10 := g10; try simp only [dd] at p10
       refine s_draw hP hC zr ?_
       refine ds (x_field (off' := 3) rfl zt u33 rfl T.s31 rfl) ?_
       refine ds (x_field (off' := 4) rfl zt u31 rfl T.s3 rfl) ?_
       refine ds (x_load1 rfl zt T.g3 (Rs.l_n ok (whole_row hg rfl) 4 _ zd rfl)) ?_
       refine ds (x_bin rfl zt (by rfl) b_add) ?_
       refine dM ?_
       refine d_call0 (wA_none rfl) rfl rfl rfl zv zd ?_
       refine ⟨_, _, _, _, (tab_hit.trans (around_c (by simp only [ok_around, Bool.and_eq_true, decide_eq_true_eq]; exact ⟨hm, by decide⟩))), ?_⟩
       refine ds (x_bin rfl zt zt b_add) ?_
       refine ds (x_field (off' := 3) rfl zt u33 rfl T.s31 rfl) ?_
       refine ds (x_field (off' := 4) rfl zt u31 rfl T.s3 rfl) ?_
       refine d_stepN (wA_none rfl) rfl (y_store1P (off := 4) (d' := ({ r with al := IntKind.i64.wrap (IntKind.i64.wrap (r.al + 1) + around m 3) } : Rs).C) rfl zt zt rfl T.s3 hg rfl (by rw [CL]; omega) rfl rfl) ?_
       refine d_done ⟨de_ok (tail_my (B := 0) (Y := none) (M := [1, 1, 1, 1, 1, 1, 1, 1, 1, 2]) (fw := 0) (my_w (my_q (my_q (my_q (my_q (my_q (my_q (my_q (my_q (my_q my_nil ow) ow) ow) ow) ow) ow) ow) ow) ow) ow (fun y q => by cases q)) zd zr) (by try dsimp only; omega) (by try dsimp only; omega), ?_⟩
       refine se_block ?_
       refine se_loop ?_
       exact ⟨_, _, _, ({ r with al := IntKind.i64.wrap (IntKind.i64.wrap (r.al + 1) + around m 3) } : Rs), rfl, zh, zh, by (repeat (first | rw [gn ow])) <;> first | rfl | assumption | (rw [gp ow]; done) | (rw [gp ow]; rfl), ⟨_, by (repeat (first | rw [gn ow])) <;> first | rfl | assumption | (rw [gp ow]; done) | (rw [gp ow]; rfl), rfl⟩, (Rs.mkOk q1 q2 q3 (wrap_inR _) q5 rl rb), (Nat.le_succ _), by omega, by omega, fun i hi => by (repeat (first | rw [gn ow])) <;> first | rfl | assumption | (rw [gp ow]; done) | (rw [gp ow]; rfl)⟩
      ·have p10 := g10; try simp only [dd] at p10
       refine s_seq (s_region hP hC ?_)
       refine os (x_bin rfl zt (by rfl) b_eql) ?_
       refine oA ?_
       refine o_done (se_seq ?_)
       refine s_cond zt (fun g12 => ?_) (fun g12 => ?_)
       ·have p12 := g12; try simp only [dd] at p12
        refine s_draw hP hC zr ?_
        refine ds (x_field (off' := 3) rfl zt u33 rfl T.s31 rfl) ?_
        refine ds (x_field (off' := 5) rfl zt u31 rfl T.s3 rfl) ?_
        refine ds (x_load1 rfl zt T.g3 (Rs.l_n ok (whole_row hg rfl) 5 _ zd rfl)) ?_
        refine ds (x_bin rfl zt (by rfl) b_sub) ?_
        refine dM ?_
        refine d_call0 (wA_none rfl) rfl rfl rfl zv zd ?_
        refine ⟨_, _, _, _, (tab_hit.trans (around_c (by simp only [ok_around, Bool.and_eq_true, decide_eq_true_eq]; exact ⟨hm, by decide⟩))), ?_⟩
        refine ds (x_bin rfl zt zt b_sub) ?_
        refine ds (x_field (off' := 3) rfl zt u33 rfl T.s31 rfl) ?_
        refine ds (x_field (off' := 5) rfl zt u31 rfl T.s3 rfl) ?_
        refine d_stepN (wA_none rfl) rfl (y_store1P (off := 5) (d' := ({ r with wa := IntKind.i64.wrap (IntKind.i64.wrap (r.wa - 1) - around m 3) } : Rs).C) rfl zt zt rfl T.s3 hg rfl (by rw [CL]; omega) rfl rfl) ?_
        refine d_done ⟨de_ok (tail_my (B := 0) (Y := none) (M := [1, 1, 1, 1, 1, 1, 1, 1, 1, 2]) (fw := 0) (my_w (my_q (my_q (my_q (my_q (my_q (my_q (my_q (my_q (my_q my_nil ow) ow) ow) ow) ow) ow) ow) ow) ow) ow (fun y q => by cases q)) zd zr) (by try dsimp only; omega) (by try dsimp only; omega), ?_⟩
        refine se_block ?_
        refine se_loop ?_
        exact ⟨_, _, _, ({ r with wa := IntKind.i64.wrap (IntKind.i64.wrap (r.wa - 1) - around m 3) } : Rs), rfl, zh, zh, by (repeat (first | rw [gn ow])) <;> first | rfl | assumption | (rw [gp ow]; done) | (rw [gp ow]; rfl), ⟨_, by (repeat (first | rw [gn ow])) <;> first | rfl | assumption | (rw [gp ow]; done) | (rw [gp ow]; rfl), rfl⟩, (Rs.mkOk q1 q2 q3 q4 (wrap_inR _) rl rb), (Nat.le_succ _), by omega, by omega, fun i hi => by (repeat (first | rw [gn ow])) <;> first | rfl | assumption | (rw [gp ow]; done) | (rw [gp ow]; rfl)⟩
       ·have p12 := g12; try simp only [dd] at p12
        refine s_draw hP hC zr ?_
        refine dM ?_
        refine d_call0 (wA_none rfl) rfl rfl rfl zv zd ?_
        refine ⟨_, _, _, _, (tab_hit.trans (around_c (by simp only [ok_around, Bool.and_eq_true, decide_eq_true_eq]; exact ⟨hm, by decide⟩))), ?_⟩
        refine ds (x_field (off' := 6) rfl zt u33 rfl T.s25 rfl) ?_
        refine ds (x_indexA rfl zt zt u25 T.s5 ow ow) ?_
        refine ds (x_load1 rfl zt T.g5 (Rs.l_b ok (whole_row hg rfl) a0 a1)) ?_
        refine dM ?_
        refine d_call0 (wA_none rfl) rfl rfl rfl zv zd ?_
        refine ⟨_, _, _, _, (tab_hit.trans (around_c (by simp only [ok_around, Bool.and_eq_true, decide_eq_true_eq]; exact ⟨hm, by decide⟩))), ?_⟩
        refine ds (x_bin rfl (by rfl) zt b_add) ?_
        refine ds (x_convI rfl zt u3 u5) ?_
        refine ds (x_bin rfl zt zt Go.AM.b_xor8) ?_
        refine ds (x_field (off' := 6) rfl zt u33 rfl T.s25 rfl) ?_
        refine ds (x_indexA rfl zt zt u25 T.s5 ow ow) ?_
        refine d_stepN (wA_none rfl) rfl (y_store1P (off := 6 + (around m 16).toNat * 1) (d' := ({ r with rt := r.rt.set (around m 16).toNat (IntKind.u8.wrap ((BitVec.ofInt 8 (ith r.rt (around m 16)) ^^^ BitVec.ofInt 8 (IntKind.u8.wrap (IntKind.i64.wrap (1 + around m 255)))).toNat : Int)) } : Rs).C) rfl zt zt rfl T.s5 hg rfl (by rw [CL]; omega) rfl (Rs.set_b a0 ow)) ?_
        refine d_done ⟨de_ok (tail_my (B := 0) (Y := none) (M := [1, 1, 1, 1, 1, 1, 1, 1, 1, 1, 1, 1, 2]) (fw := 0) (my_w (my_q (my_q (my_q (my_q (my_q (my_q (my_q (my_q (my_q (my_q (my_q (my_q my_nil ow) ow) ow) ow) ow) ow) ow) ow) ow) ow) ow) ow) ow (fun y q => by cases q)) zd zr) (by try dsimp only; omega) (by try dsimp only; omega), ?_⟩
        refine se_block ?_
        refine se_loop ?_
        exact ⟨_, _, _, ({ r with rt := r.rt.set (around m 16).toNat (IntKind.u8.wrap ((BitVec.ofInt 8 (ith r.rt (around m 16)) ^^^ BitVec.ofInt 8 (IntKind.u8.wrap (IntKind.i64.wrap (1 + around m 255)))).toNat : Int)) } : Rs), rfl, zh, zh, by (repeat (first | rw [gn ow])) <;> first | rfl | assumption | (rw [gp ow]; done) | (rw [gp ow]; rfl), ⟨_, by (repeat (first | rw [gn ow])) <;> first | rfl | assumption | (rw [gp ow]; done) | (rw [gp ow]; rfl), rfl⟩, (Rs.mkOk q1 q2 q3 q4 q5 (by show (List.set _ _ _).length = 16; rw [List.length_set]; exact rl) (byt_set rb (u8_rng _))), (Nat.le_succ _), by omega, by omega, fun i hi => by (repeat (first | rw [gn ow])) <;> first | rfl | assumption | (rw [gp ow]; done) | (rw [gp ow]; rfl)⟩
 ·skip
  rintro _ ⟨e, t1, wq1, r', rfl, he3, he6, hr, ⟨z, hz, hzl⟩, ok', hsz, w1, w2, hx1⟩
  have CL' := Rs.C_len ok'
  refine s_seq (s_region hP hC ?_)
  refine os (x_loadA rfl za T.g33 T.s33 (l_all (whole_row hr rfl) CL'.symm)) ?_
  refine o_stepN (wA_none rfl) rfl (y_storeA rfl za za T.s33 CL' hz rfl hzl.symm (Rs.C_one _)) ?_
  refine o_done (se_seq ?_)
  refine s_ret ?_
  refine ⟨.inr rfl, _, (resA_cell za T.g33 T.s33 (l_all (whole_row (show Tr.get _ (nx + 1) = _ from by rw [gp rfl]) rfl) CL'.symm) resA_nil), fun r2 n2 m2 hs2 ok2 => ?_⟩
  simp only [List.cons.injEq, Value.agg.injEq, Array.mk.injEq, Value.int.injEq, and_true, true_and] at hs2
  obtain rfl := Rs.C_inj hs2.1
  exact ⟨_, _, _, r', rfl, ⟨by show nx <= nx + 2; omega, Nat.le_refl _, by show min wr nx <= _; omega, by show _ <= wr; omega, fun i (hi : i < nx) => by show _ = t.get i; rw [gn ow]; exact hx1 i hi⟩, rfl, ok', hsz⟩
end Go.Proofs.YtfgmplbclpadbaaGreatDoor
namespace Go.Proofs.YtfgmplbclpadbaaGreatDoor
open Go Go.AM
def Ans.rs (a : Ans) : Rs := ⟨a.o, a.si, a.st, a.al, a.wa, a.wh, a.rt⟩
def Ans.withR (a : Ans) (r : Rs) : Ans := { a with o := r.o, si := r.si, st := r.st, al := r.al, wa := r.wa, wh := r.wh, rt := r.rt }
theorem Ans.rs_ok {a : Ans} (ok : a.Ok) : a.rs.Ok := ⟨fun x hx => ok.nums x (by
 simp only [Ans.rs, List.mem_cons, List.not_mem_nil, or_false] at hx
 rcases hx with rfl | rfl | rfl | rfl | rfl <;> simp only [List.mem_cons, true_or, or_true]), ok.rl, ok.rb⟩
structure Ans.Ns (a : Ans) : Prop where
 n1 : inR a.w
 n2 : inR a.q
 n3 : inR a.k
 n4 : inR a.f
 n5 : inR a.sk
 n6 : inR a.sd
 n7 : inR a.o
 n8 : inR a.si
 n9 : inR a.st
 n10 : inR a.al
 n11 : inR a.wa
theorem Ans.ns {a : Ans} (ok : a.Ok) : a.Ns := by
 have h := ok.nums
 constructor <;> exact h _ (by simp only [List.mem_cons, true_or, or_true])
theorem Ans.mkOk {a : Ans} (h : a.Ns) (h1 : a.pd.length = 16) (h2 : a.rt.length = 16) (h3 : Byt a.pd) (h4 : Byt a.rt) (h5 : a.ts.size <= 1500000) (h6 : a.wh.size <= 1500000) (h7 : a.sg.size <= 1500000) : a.Ok := ⟨fun x hx => by
 have := h.n1; have := h.n2; have := h.n3; have := h.n4; have := h.n5; have := h.n6; have := h.n7; have := h.n8; have := h.n9; have := h.n10; have := h.n11
 simp only [List.mem_cons, List.not_mem_nil, or_false] at hx
 rcases hx with rfl | rfl | rfl | rfl | rfl | rfl | rfl | rfl | rfl | rfl | rfl <;> assumption, h1, h2, h3, h4, h5, h6, h7⟩
section
variable {a : Ans} {x : Int} {s : ByteArray} {r : Rs}
theorem Ans.set_pd (ok : a.Ok) {i : Int} (h0 : 0 <= i) (h1 : i < 16) : splice a.C (2 + i.toNat * 1) [.int .u8 x] = ({ a with pd := a.pd.set i.toNat x } : Ans).C := by
 have pl := ok.pl
 unfold Ans.C
 rw [splice_right (by rfl), Nat.mul_one]
 congr 1
 have hlt : i.toNat < a.pd.length := by omega
 have e := splice_set (x := x) hlt
 have hb := bys_len a.pd
 rw [<-e]
 unfold splice
 rw [List.take_append_of_le_length (by omega), List.drop_append_of_le_length (by simp only [List.length_cons, List.length_nil]; omega)]
 simp only [List.append_assoc]
theorem Ans.set_x (ok : a.Ok) (j : Nat) (v : Value) (M : List Value) (hj : splice [.string a.ts, .int .i64 a.k, .int .i64 a.f, .int .i64 a.sk, .int .i64 a.sd] j [v] = M) (h5 : j < 5) : splice a.C (18 + j) [v] = [.int .i64 a.w, .int .i64 a.q] ++ (bys a.pd ++ (M ++ (a.R ++ [.string a.sg]))) := by
 have pl := ok.pl
 have e : a.C = ([.int .i64 a.w, .int .i64 a.q] ++ bys a.pd) ++ ([.string a.ts, .int .i64 a.k, .int .i64 a.f, .int .i64 a.sk, .int .i64 a.sd] ++ (a.R ++ [.string a.sg])) := by
  rw [Ans.C_eq]; unfold Ans.X; simp only [List.append_assoc]
 rw [e, splice_right (by rw [List.length_append, bys_len, pl]; rfl), List.append_assoc, <-hj]
 congr 2
 unfold splice
 rw [List.take_append_of_le_length (by simp only [List.length_cons, List.length_nil]; omega), List.drop_append_of_le_length (by simp only [List.length_cons, List.length_nil]; omega)]
 simp only [List.append_assoc]
theorem Ans.C_parts (a : Ans) : a.C = [.int .i64 a.w, .int .i64 a.q] ++ (bys a.pd ++ ([.string a.ts, .int .i64 a.k, .int .i64 a.f, .int .i64 a.sk, .int .i64 a.sd] ++ (a.R ++ [.string a.sg]))) := by
 rw [Ans.C_eq]; unfold Ans.X; simp only [List.append_assoc]
theorem Ans.set_ts (ok : a.Ok) : splice a.C 18 [.string s] = ({ a with ts := s } : Ans).C := by
 rw [Ans.C_parts { a with ts := s }]; exact Ans.set_x ok 0 _ _ rfl (by decide)
theorem Ans.set_f (ok : a.Ok) : splice a.C 20 [.int .i64 x] = ({ a with f := x } : Ans).C := by
 rw [Ans.C_parts { a with f := x }]; exact Ans.set_x ok 2 _ _ rfl (by decide)
theorem Ans.set_sd (ok : a.Ok) : splice a.C 22 [.int .i64 x] = ({ a with sd := x } : Ans).C := by
 rw [Ans.C_parts { a with sd := x }]; exact Ans.set_x ok 4 _ _ rfl (by decide)
theorem Ans.set_sg (ok : a.Ok) : splice a.C 45 [.string s] = ({ a with sg := s } : Ans).C := by
 rw [Ans.C_eq, Ans.C_eq { a with sg := s }]
 have hl : (([Value.int .i64 a.w, .int .i64 a.q] ++ a.X) ++ a.R).length = 45 := by rw [List.length_append, List.length_append, Ans.X_len ok, Ans.R_len ok]; rfl
 have := splice_right (A := ([Value.int .i64 a.w, .int .i64 a.q] ++ a.X) ++ a.R) (B := [.string a.sg]) (vs := [.string s]) (n := 45) (j := 0) hl
 rw [<-List.append_assoc, <-List.append_assoc, this]
 simp only [List.append_assoc]
 rfl
theorem Ans.set_rs (ok : a.Ok) (hr : r.Ok) : splice a.C 23 r.C = (a.withR r).C := by
 rw [Ans.C_eq, Ans.C_eq (a.withR r)]
 have hl : ([Value.int .i64 a.w, .int .i64 a.q] ++ a.X).length = 23 := by rw [List.length_append, Ans.X_len ok]; rfl
 have := splice_right (A := [Value.int .i64 a.w, .int .i64 a.q] ++ a.X) (B := a.R ++ [.string a.sg]) (vs := r.C) (n := 23) (j := 0) hl
 rw [<-List.append_assoc, this, List.append_assoc]
 congr 2
 unfold splice
 rw [List.take_zero, List.nil_append, Nat.zero_add, Rs.C_len hr, List.drop_left' (Ans.R_len ok)]
 rfl
end
end Go.Proofs.YtfgmplbclpadbaaGreatDoor
namespace Go.Proofs.YtfgmplbclpadbaaGreatDoor
open Go.AM
set_option maxRecDepth 100000
set_option maxHeartbeats 1000000
set_option maxHeartbeats 8000000
theorem sB_len' (s : ByteArray) : ((sB s).length : Int) = (s.size : Int) := by rw [sB_len]
theorem Ans.C_one (a : Ans) : a.C.all oneC = true := by
 unfold Ans.C
 simp only [List.all_append, bys_one, Bool.and_true, Bool.true_and]
 rfl
theorem strB_size (l : List Int) : (strB l).size = l.length := by
 unfold strB
 exact List.length_map ..
theorem Ans.l_b {a : Ans} {h : AH} {id : Nat} (ok : a.Ok) (hw : Whole h id a.C) {i : Int} (h0 : 0 <= i) (h1 : i < 16) : loadC h id (2 + i.toNat * 1) 1 = some [.int .u8 (ith a.pd i)] := by
 have pl := ok.pl
 have bl := bys_len a.pd
 rw [l_whole hw _ _ (by rw [Ans.C_len ok]; omega), Ans.C_parts, <-List.drop_drop, List.drop_left' (by rfl), Nat.mul_one, List.drop_append_of_le_length ow, List.take_append_of_le_length (by rw [List.length_drop]; omega), bys_at ow]
 rfl
theorem Ans.l_ts {a : Ans} {h : AH} {id : Nat} (ok : a.Ok) (hw : Whole h id a.C) : loadC h id 18 1 = some [.string a.ts] := by
 have pl := ok.pl
 rw [l_whole hw _ _ (by rw [Ans.C_len ok]; omega), Ans.C_parts, <-List.append_assoc, List.drop_left' (by rw [List.length_append, bys_len, pl]; rfl)]
 rfl
def R_bent : List Value -> AH -> Value -> AH -> Prop := fun args h v h' => ∀ (a : Ans) n m, args = [.agg ⟨a.C⟩, .int .i64 n, .int .i64 m] -> a.Ok -> ∃ t' nx' wr', ∃ b : Ans, h' = ⟨t', nx', wr'⟩ /\ Fr h.t h.next h.wr t' nx' wr' 12 /\ v = .agg ⟨b.C⟩ /\ b.Ok /\ b.ts.size <= a.ts.size + 1 /\ b.wh.size <= a.wh.size + 1 /\ b.sg.size <= a.sg.size + 1
noncomputable def c_bent := cEx Tryz.prog 15 R_bent
theorem con_bent : Con Tryz.prog 15 c_bent := con_ex Tryz.func15 rfl
theorem bent_c {t : Tr AObj} {nx wr : Nat} {a : Ans} {n m : Int} (ok : a.Ok) (hn : inR n) (hm : inR m) (ht : a.ts.size <= 1400000) (hh : a.wh.size <= 1400000) (hgz : a.sg.size <= 1400000) (hN : nx + 200 <= BIG) (hwr : wr <= BIG) : ∃ v h', c_bent [.agg ⟨a.C⟩, .int .i64 n, .int .i64 m] ⟨t, nx, wr⟩ = some (v, h') /\ ∃ t' nx' wr', ∃ b : Ans, h' = ⟨t', nx', wr'⟩ /\ Fr t nx wr t' nx' wr' 12 /\ v = .agg ⟨b.C⟩ /\ b.Ok /\ b.ts.size <= a.ts.size + 1 /\ b.wh.size <= a.wh.size + 1 /\ b.sg.size <= a.sg.size + 1 := by
 have hP := Fits
 have hC : CallSound Tryz.prog (tabOf [(7, c_around), (45, c_wrong)]) := tab_sound (tab_cons con_around (tab_cons con_wrong tab_end))
 have hF0 : Fr t nx wr t nx wr 0 := Fr.refl
 have CL := Ans.C_len ok
 have N := Ans.ns ok
 have pl := ok.pl; have rl := ok.rl; have pb := ok.pb; have rb := ok.rb
 have tl := ok.tl; have hl := ok.hl; have gl := ok.gl
 have a0 : 0 <= around m 16 := around_lo zd
 have a1 : around m 16 < 16 := around_hi zd
 have b0 : 0 <= around m 8 := around_lo zd
 have b1 : around m 8 < 8 := around_hi zd
 have x0 : 0 <= around m 10 := around_lo zd
 have x1 : around m 10 < 10 := around_hi zd
 have y0 : 0 <= around m 6 := around_lo zd
 have y1 : around m 6 < 6 := around_hi zd
 suffices key : SureK Tryz.prog ⟨t, nx, wr⟩ _ [] _ (EndR Tryz.prog _ (R_bent [.agg ⟨a.C⟩, .int .i64 n, .int .i64 m] ⟨t, nx, wr⟩)) by
  obtain ⟨v, h', q, c⟩ := sure_start (R := R_bent) (sz := 106) Tryz.func15 rfl rfl zo key
  exact ⟨v, h', q, c a n m rfl ok⟩
 refine s_seq (s_region hP hC ?_)
 refine os (y_boxA rfl zt) ?_
 refine os (y_alloc rfl T.z35 rfl rfl) ?_
 refine o_done (se_seq (s_seq (s_seq (s_region hP hC (oM ?_)))))
 refine o_call0 (wA_none rfl) rfl rfl rfl zv zd ?_
 refine ⟨_, _, (tab_hit.trans (around_c (by simp only [ok_around, Bool.and_eq_true, decide_eq_true_eq]; exact ⟨hn, by decide⟩))), ?_⟩
 refine o_done (se_seq ?_)
 refine s_join (fun s' => ∃ e t1 nx1 wq1, ∃ b : Ans, s' = ⟨e, 106, ⟨t1, nx1, wq1⟩⟩ /\ e.get 3 = some (.pointer (some ⟨nx, 0, none⟩)) /\ e.get 6 = some (.pointer (some ⟨nx + 1, 0, none⟩)) /\ t1.get nx = some (.row b.C nx BIG false b.C.length) /\ (∃ z, t1.get (nx + 1) = some (.row z (nx + 1) BIG false 46) /\ z.length = 46) /\ b.Ok /\ b.ts.size <= a.ts.size + 1 /\ b.wh.size <= a.wh.size + 1 /\ b.sg.size <= a.sg.size + 1 /\ nx + 2 <= nx1 /\ nx1 <= nx + 12 /\ min wr nx <= wq1 /\ wq1 <= wr /\ (∀ i, i < nx -> t1.get i = t.get i)) ?_ ?_
 ·skip
  refine s_block (s_seq (s_region hP hC ?_))
  refine os (x_bin rfl zt (by rfl) b_eql) ?_
  refine oA ?_
  refine o_done (se_seq ?_)
  refine s_cond zt (fun g2 => ?_) (fun g2 => ?_)
  ·have p2 := g2; try simp only [dd] at p2
   refine s_region hP hC (oM ?_)
   refine o_call0 (wA_none rfl) rfl rfl rfl zv zd ?_
   refine ⟨_, _, (tab_hit.trans (around_c (by simp only [ok_around, Bool.and_eq_true, decide_eq_true_eq]; exact ⟨hm, by decide⟩))), ?_⟩
   refine os (x_bin rfl zt (by rfl) (b_subR ow)) ?_
   refine os (x_field (off' := 0) rfl zt u35 rfl T.s3 rfl) ?_
   refine o_stepN (wA_none rfl) rfl (y_store1P (off := 0) (d' := ({ a with w := around m 8 - 1 } : Ans).C) rfl zt zt rfl T.s3 hg rfl (by rw [CL]; omega) rfl rfl) ?_
   refine o_done (se_block ?_)
   refine se_loop ?_
   exact ⟨_, _, _, _, ({ a with w := around m 8 - 1 } : Ans), rfl, zh, zh, by (repeat (first | rw [gn ow])) <;> first | rfl | assumption | (rw [gp ow]; done) | (rw [gp ow]; rfl), ⟨_, by (repeat (first | rw [gn ow])) <;> first | rfl | assumption | (rw [gp ow]; done) | (rw [gp ow]; rfl), rfl⟩, (Ans.mkOk (⟨(by show inR (around m 8 - 1); unfold inR; omega), N.n2, N.n3, N.n4, N.n5, N.n6, N.n7, N.n8, N.n9, N.n10, N.n11⟩ : Ans.Ns ({ a with w := around m 8 - 1 } : Ans)) pl rl pb rb tl hl gl), (Nat.le_succ _), (Nat.le_succ _), (Nat.le_succ _), by omega, by omega, by omega, by omega, fun i hi => by (repeat (first | rw [gn ow])) <;> first | rfl | assumption | (rw [gp ow]; done) | (rw [gp ow]; rfl)⟩
  ·have p2 := g2; try simp only [dd] at p2
   refine s_seq (s_region hP hC ?_)
   refine os (x_bin rfl zt (by rfl) b_eql) ?_
   refine oA ?_
   refine o_done (se_seq ?_)
   refine s_cond zt (fun g4 => ?_) (fun g4 => ?_)
   ·have p4 := g4; try simp only [dd] at p4
    refine s_region hP hC ?_
    refine os (y_bsliceN (cs := ints [-1, 0, 1, 2, 63, 64]) rfl (by rfl) u22 T.s3 T.z3 zd zd rfl rfl (by rfl)) ?_
    refine oM ?_
    refine o_call0 (wA_none rfl) rfl rfl rfl zv zd ?_
    refine ⟨_, _, (tab_hit.trans (around_c (by simp only [ok_around, Bool.and_eq_true, decide_eq_true_eq]; exact ⟨hm, by decide⟩))), ?_⟩
    refine os (x_index rfl zt zt u22 T.s3 ow ow) ?_
    refine os (x_load1 rfl zt T.g3 (l_ints (l := [-1, 0, 1, 2, 63, 64]) (whole_row hg rfl) ow (by show _ < (6 : Int); omega))) ?_
    refine os (x_field (off' := 1) rfl zt u35 rfl T.s3 rfl) ?_
    refine o_stepN (wA_none rfl) rfl (y_store1P (off := 1) (d' := ({ a with q := ith [-1, 0, 1, 2, 63, 64] (around m 6) } : Ans).C) rfl zt zt rfl T.s3 hg rfl (by rw [CL]; omega) rfl rfl) ?_
    refine o_done (se_block ?_)
    refine se_loop ?_
    exact ⟨_, _, _, _, ({ a with q := ith [-1, 0, 1, 2, 63, 64] (around m 6) } : Ans), rfl, zh, zh, by (repeat (first | rw [gn ow])) <;> first | rfl | assumption | (rw [gp ow]; done) | (rw [gp ow]; rfl), ⟨_, by (repeat (first | rw [gn ow])) <;> first | rfl | assumption | (rw [gp ow]; done) | (rw [gp ow]; rfl), rfl⟩, (Ans.mkOk (⟨N.n1, (pickI (l := [-1, 0, 1, 2, 63, 64]) zd ow (by show _ < (6 : Int); omega)), N.n3, N.n4, N.n5, N.n6, N.n7, N.n8, N.n9, N.n10, N.n11⟩ : Ans.Ns ({ a with q := ith [-1, 0, 1, 2, 63, 64] (around m 6) } : Ans)) pl rl pb rb tl hl gl), (Nat.le_succ _), (Nat.le_succ _), (Nat.le_succ _), by omega, by omega, by omega, by omega, fun i hi => by (repeat (first | rw [gn ow])) <;> first | rfl | assumption | (rw [gp ow]; done) | (rw [gp ow]; rfl)⟩
   ·have p4 := g4; try simp only [dd] at p4
    refine s_seq (s_region hP hC ?_)
    refine os (x_bin rfl zt (by rfl) b_eql) ?_
    refine oA ?_
    refine o_done (se_seq ?_)
    refine s_cond zt (fun g6 => ?_) (fun g6 => ?_)
    ·have p6 := g6; try simp only [dd] at p6
     refine s_draw hP hC zr ?_
     refine dM ?_
     refine d_call0 (wA_none rfl) rfl rfl rfl zv zd ?_
     refine ⟨_, _, _, _, (tab_hit.trans (around_c (by simp only [ok_around, Bool.and_eq_true, decide_eq_true_eq]; exact ⟨hm, by decide⟩))), ?_⟩
     refine ds (x_field (off' := 2) rfl zt u35 rfl T.s29 rfl) ?_
     refine ds (x_field (off' := 2) rfl zt u29 rfl T.s25 rfl) ?_
     refine ds (x_indexA rfl zt zt u25 T.s5 ow ow) ?_
     refine ds (x_load1 rfl zt T.g5 (Ans.l_b ok (whole_row hg rfl) a0 a1)) ?_
     refine dM ?_
     refine d_call0 (wA_none rfl) rfl rfl rfl zv zd ?_
     refine ⟨_, _, _, _, (tab_hit.trans (around_c (by simp only [ok_around, Bool.and_eq_true, decide_eq_true_eq]; exact ⟨hm, by decide⟩))), ?_⟩
     refine ds (x_bin rfl (by rfl) zt b_add) ?_
     refine ds (x_convI rfl zt u3 u5) ?_
     refine ds (x_bin rfl zt zt Go.AM.b_xor8) ?_
     refine ds (x_field (off' := 2) rfl zt u35 rfl T.s29 rfl) ?_
     refine ds (x_field (off' := 2) rfl zt u29 rfl T.s25 rfl) ?_
     refine ds (x_indexA rfl zt zt u25 T.s5 ow ow) ?_
     refine d_stepN (wA_none rfl) rfl (y_store1P (off := 2 + (around m 16).toNat * 1) (d' := ({ a with pd := a.pd.set (around m 16).toNat (IntKind.u8.wrap ((BitVec.ofInt 8 (ith a.pd (around m 16)) ^^^ BitVec.ofInt 8 (IntKind.u8.wrap (IntKind.i64.wrap (1 + around m 255)))).toNat : Int)) } : Ans).C) rfl zt zt rfl T.s5 hg rfl (by rw [CL]; omega) rfl (Ans.set_pd ok a0 a1)) ?_
     refine d_done ⟨de_ok (tail_my (B := 0) (Y := none) (M := [1, 1, 1, 1, 1, 1, 1, 1, 1, 1, 1, 1, 1, 1, 2]) (fw := 0) (my_w (my_q (my_q (my_q (my_q (my_q (my_q (my_q (my_q (my_q (my_q (my_q (my_q (my_q (my_q my_nil ow) ow) ow) ow) ow) ow) ow) ow) ow) ow) ow) ow) ow) ow) ow (fun y q => by cases q)) zd zr) (by try dsimp only; omega) (by try dsimp only; omega), ?_⟩
     refine se_block ?_
     refine se_loop ?_
     exact ⟨_, _, _, _, ({ a with pd := a.pd.set (around m 16).toNat (IntKind.u8.wrap ((BitVec.ofInt 8 (ith a.pd (around m 16)) ^^^ BitVec.ofInt 8 (IntKind.u8.wrap (IntKind.i64.wrap (1 + around m 255)))).toNat : Int)) } : Ans), rfl, zh, zh, by (repeat (first | rw [gn ow])) <;> first | rfl | assumption | (rw [gp ow]; done) | (rw [gp ow]; rfl), ⟨_, by (repeat (first | rw [gn ow])) <;> first | rfl | assumption | (rw [gp ow]; done) | (rw [gp ow]; rfl), rfl⟩, (Ans.mkOk (⟨N.n1, N.n2, N.n3, N.n4, N.n5, N.n6, N.n7, N.n8, N.n9, N.n10, N.n11⟩ : Ans.Ns ({ a with pd := a.pd.set (around m 16).toNat (IntKind.u8.wrap ((BitVec.ofInt 8 (ith a.pd (around m 16)) ^^^ BitVec.ofInt 8 (IntKind.u8.wrap (IntKind.i64.wrap (1 + around m 255)))).toNat : Int)) } : Ans)) (by show (List.set _ _ _).length = 16; rw [List.length_set]; exact pl) rl (byt_set pb (u8_rng _)) rb tl hl gl), (Nat.le_succ _), (Nat.le_succ _), (Nat.le_succ _), by omega, by omega, by omega, by omega, fun i hi => by (repeat (first | rw [gn ow])) <;> first | rfl | assumption | (rw [gp ow]; done) | (rw [gp ow]; rfl)⟩
    ·have p6 := g6; try simp only [dd] at p6
     refine s_seq (s_region hP hC ?_)
     refine os (x_bin rfl zt (by rfl) b_eql) ?_
     refine oA ?_
     refine o_done (se_seq ?_)
     refine s_cond zt (fun g8 => ?_) (fun g8 => ?_)
     ·have p8 := g8; try simp only [dd] at p8
      refine s_region hP hC ?_
      refine os (x_field (off' := 2) rfl zt u35 rfl T.s29 rfl) ?_
      refine os (x_field (off' := 18) rfl zt u29 rfl T.s9 rfl) ?_
      refine os (x_load1 rfl zt T.g9 (Ans.l_ts ok (whole_row hg rfl))) ?_
      refine os (x_bin rfl zt (by rfl) (b_addS (by show a.ts.size + 1 <= _; omega))) ?_
      refine os (x_field (off' := 2) rfl zt u35 rfl T.s29 rfl) ?_
      refine os (x_field (off' := 18) rfl zt u29 rfl T.s9 rfl) ?_
      refine o_stepN (wA_none rfl) rfl (y_store1P (off := 18) (d' := ({ a with ts := a.ts ++ sX } : Ans).C) rfl zt zt rfl T.s9 hg rfl (by rw [CL]; omega) rfl (Ans.set_ts ok)) ?_
      refine o_done (se_block ?_)
      refine se_loop ?_
      exact ⟨_, _, _, _, ({ a with ts := a.ts ++ sX } : Ans), rfl, zh, zh, by (repeat (first | rw [gn ow])) <;> first | rfl | assumption | (rw [gp ow]; done) | (rw [gp ow]; rfl), ⟨_, by (repeat (first | rw [gn ow])) <;> first | rfl | assumption | (rw [gp ow]; done) | (rw [gp ow]; rfl), rfl⟩, (Ans.mkOk (⟨N.n1, N.n2, N.n3, N.n4, N.n5, N.n6, N.n7, N.n8, N.n9, N.n10, N.n11⟩ : Ans.Ns ({ a with ts := a.ts ++ sX } : Ans)) pl rl pb rb (by show (a.ts ++ sX).size <= _; rw [ByteArray.size_append]; show a.ts.size + 1 <= _; omega) hl gl), (by show (a.ts ++ sX).size <= _; rw [ByteArray.size_append]; exact Nat.le_refl _), (Nat.le_succ _), (Nat.le_succ _), by omega, by omega, by omega, by omega, fun i hi => by (repeat (first | rw [gn ow])) <;> first | rfl | assumption | (rw [gp ow]; done) | (rw [gp ow]; rfl)⟩
     ·have p8 := g8; try simp only [dd] at p8
      refine s_seq (s_region hP hC ?_)
      refine os (x_bin rfl zt (by rfl) b_eql) ?_
      refine oA ?_
      refine o_done (se_seq ?_)
      refine s_cond zt (fun g10 => ?_) (fun g10 => ?_)
      ·have p10 := g10; try simp only [dd] at p10
       refine s_region hP hC (oM ?_)
       refine o_call0 (wA_none rfl) rfl rfl rfl zv zd ?_
       refine ⟨_, _, (tab_hit.trans (around_c (by simp only [ok_around, Bool.and_eq_true, decide_eq_true_eq]; exact ⟨hm, by decide⟩))), ?_⟩
       refine os (x_field (off' := 2) rfl zt u35 rfl T.s29 rfl) ?_
       refine os (x_field (off' := 19) rfl zt u29 rfl T.s27 rfl) ?_
       refine os (x_field (off' := 20) rfl zt u27 rfl T.s3 rfl) ?_
       refine o_stepN (wA_none rfl) rfl (y_store1P (off := 20) (d' := ({ a with f := around m 10 } : Ans).C) rfl zt zt rfl T.s3 hg rfl (by rw [CL]; omega) rfl (Ans.set_f ok)) ?_
       refine o_done (se_block ?_)
       refine se_loop ?_
       exact ⟨_, _, _, _, ({ a with f := around m 10 } : Ans), rfl, zh, zh, by (repeat (first | rw [gn ow])) <;> first | rfl | assumption | (rw [gp ow]; done) | (rw [gp ow]; rfl), ⟨_, by (repeat (first | rw [gn ow])) <;> first | rfl | assumption | (rw [gp ow]; done) | (rw [gp ow]; rfl), rfl⟩, (Ans.mkOk (⟨N.n1, N.n2, N.n3, (by show inR (around m 10); unfold inR; omega), N.n5, N.n6, N.n7, N.n8, N.n9, N.n10, N.n11⟩ : Ans.Ns ({ a with f := around m 10 } : Ans)) pl rl pb rb tl hl gl), (Nat.le_succ _), (Nat.le_succ _), (Nat.le_succ _), by omega, by omega, by omega, by omega, fun i hi => by (repeat (first | rw [gn ow])) <;> first | rfl | assumption | (rw [gp ow]; done) | (rw [gp ow]; rfl)⟩
      ·have p10 := g10; try simp only [dd] at p10
       refine s_seq (s_region hP hC ?_)
       refine os (x_bin rfl zt (by rfl) b_eql) ?_
       refine oA ?_
       refine o_done (se_seq ?_)
       refine s_cond zt (fun g12 => ?_) (fun g12 => ?_)
       ·have p12 := g12; try simp only [dd] at p12
        refine s_region hP hC (oM ?_)
        refine os (x_field (off' := 2) rfl zt u35 rfl T.s29 rfl) ?_
        refine os (x_field (off' := 22) rfl zt u29 rfl T.s3 rfl) ?_
        refine o_stepN (wA_none rfl) rfl (y_store1P (off := 22) (d' := ({ a with sd := m } : Ans).C) rfl zt zt rfl T.s3 hg rfl (by rw [CL]; omega) rfl (Ans.set_sd ok)) ?_
        refine o_done (se_block ?_)
        refine se_loop ?_
        exact ⟨_, _, _, _, ({ a with sd := m } : Ans), rfl, zh, zh, by (repeat (first | rw [gn ow])) <;> first | rfl | assumption | (rw [gp ow]; done) | (rw [gp ow]; rfl), ⟨_, by (repeat (first | rw [gn ow])) <;> first | rfl | assumption | (rw [gp ow]; done) | (rw [gp ow]; rfl), rfl⟩, (Ans.mkOk (⟨N.n1, N.n2, N.n3, N.n4, N.n5, hm, N.n7, N.n8, N.n9, N.n10, N.n11⟩ : Ans.Ns ({ a with sd := m } : Ans)) pl rl pb rb tl hl gl), (Nat.le_succ _), (Nat.le_succ _), (Nat.le_succ _), by omega, by omega, by omega, by omega, fun i hi => by (repeat (first | rw [gn ow])) <;> first | rfl | assumption | (rw [gp ow]; done) | (rw [gp ow]; rfl)⟩
       ·have p12 := g12; try simp only [dd] at p12
        refine s_seq (s_seq (s_region hP hC ?_))
        refine os (x_bin rfl zt (by rfl) b_eql) ?_
        refine oA ?_
        refine o_done (se_seq ?_)
        refine s_cond zt (fun g14 => ?_) (fun g14 => ?_)
        ·have p14 := g14; try simp only [dd] at p14
         refine s_skip (se_seq ?_)
         refine s_condT (by simp only [ev_tmp, Tr.get_set, reduceIte, Nat.reduceEqDiff, Nat.reduceAdd]; first | rfl | exact congrArg (fun b => some (Value.bool b)) (by assumption)) ?_
         refine s_region hP hC ?_
         refine os (x_field (off' := 23) rfl zt u35 rfl T.s33 rfl) ?_
         refine os (x_loadA rfl zt T.g33 T.s33 (Ans.l_R ok (whole_row hg rfl))) ?_
         refine oM ?_
         refine os (x_bin rfl zt (by rfl) (b_quo zd)) ?_
         refine oM ?_
         refine o_callR (tab_missR zd (tab_hitR (wrong_c (r := a.rs) (Ans.rs_ok ok) (wrap_inR _) hm (by show a.wh.size <= _; omega) ow ow))) (wA_none rfl) rfl rfl rfl zv zd (fun vW hW hRW => ?_)
         obtain ⟨tW, nW, wW, rW, rfl, hfW, rfl, okW, szW⟩ := hRW
         have szW : rW.wh.size <= a.wh.size + 1 := szW
         have qaW := hfW.le
         have qbW := hfW.hi
         have qcW := hfW.wlo
         have qdW := hfW.whi
         have r1 : inR rW.o := okW.nums _ (by simp only [List.mem_cons, true_or, or_true])
         have r2 : inR rW.si := okW.nums _ (by simp only [List.mem_cons, true_or, or_true])
         have r3 : inR rW.st := okW.nums _ (by simp only [List.mem_cons, true_or, or_true])
         have r4 : inR rW.al := okW.nums _ (by simp only [List.mem_cons, true_or, or_true])
         have r5 : inR rW.wa := okW.nums _ (by simp only [List.mem_cons, true_or, or_true])
         refine os (x_field (off' := 23) rfl zt u35 rfl T.s33 rfl) ?_
         refine o_stepN (wA_none rfl) rfl (y_storeAP (off := 23) (d' := (a.withR rW).C) rfl zt zt T.s33 (Rs.C_len okW) ((hfW.same _ ow).trans (by (repeat (first | rw [gn ow] | rw [hfW.same _ ow])) <;> first | rfl | assumption | (rw [gp ow]; done) | (rw [gp ow]; rfl))) rfl (by rw [CL]; omega) (Rs.C_one _) (Ans.set_rs ok okW)) ?_
         refine o_done (se_block ?_)
         refine se_loop ?_
         exact ⟨_, _, _, _, (a.withR rW), rfl, zh, zh, by (repeat (first | rw [gn ow] | rw [hfW.same _ ow])) <;> first | rfl | assumption | (rw [gp ow]; done) | (rw [gp ow]; rfl), ⟨_, by (repeat (first | rw [gn ow] | rw [hfW.same _ ow])) <;> first | rfl | assumption | (rw [gp ow]; done) | (rw [gp ow]; rfl), rfl⟩, (Ans.mkOk (⟨N.n1, N.n2, N.n3, N.n4, N.n5, N.n6, r1, r2, r3, r4, r5⟩ : Ans.Ns (a.withR rW)) pl okW.rl pb okW.rb tl (by show rW.wh.size <= _; omega) gl), (Nat.le_succ _), szW, (Nat.le_succ _), by omega, by omega, by omega, by omega, fun i hi => by (repeat (first | rw [gn ow] | rw [hfW.same _ ow])) <;> first | rfl | assumption | (rw [gp ow]; done) | (rw [gp ow]; rfl)⟩
        ·have p14 := g14; try simp only [dd] at p14
         refine s_seq (s_region hP hC ?_)
         refine os (x_bin rfl zt (by rfl) b_eql) ?_
         refine oA ?_
         refine o_done (se_seq ?_)
         refine s_cond zt (fun g16 => ?_) (fun g16 => ?_)
         ·have p16 := g16; try simp only [dd] at p16
          refine s_skip (se_seq ?_)
          refine s_condT (by simp only [ev_tmp, Tr.get_set, reduceIte, Nat.reduceEqDiff, Nat.reduceAdd]; first | rfl | exact congrArg (fun b => some (Value.bool b)) (by assumption)) ?_
          refine s_region hP hC ?_
          refine os (x_field (off' := 23) rfl zt u35 rfl T.s33 rfl) ?_
          refine os (x_loadA rfl zt T.g33 T.s33 (Ans.l_R ok (whole_row hg rfl))) ?_
          refine oM ?_
          refine os (x_bin rfl zt (by rfl) (b_quo zd)) ?_
          refine oM ?_
          refine o_callR (tab_missR zd (tab_hitR (wrong_c (r := a.rs) (Ans.rs_ok ok) (wrap_inR _) hm (by show a.wh.size <= _; omega) ow ow))) (wA_none rfl) rfl rfl rfl zv zd (fun vW hW hRW => ?_)
          obtain ⟨tW, nW, wW, rW, rfl, hfW, rfl, okW, szW⟩ := hRW
          have szW : rW.wh.size <= a.wh.size + 1 := szW
          have qaW := hfW.le
          have qbW := hfW.hi
          have qcW := hfW.wlo
          have qdW := hfW.whi
          have r1 : inR rW.o := okW.nums _ (by simp only [List.mem_cons, true_or, or_true])
          have r2 : inR rW.si := okW.nums _ (by simp only [List.mem_cons, true_or, or_true])
          have r3 : inR rW.st := okW.nums _ (by simp only [List.mem_cons, true_or, or_true])
          have r4 : inR rW.al := okW.nums _ (by simp only [List.mem_cons, true_or, or_true])
          have r5 : inR rW.wa := okW.nums _ (by simp only [List.mem_cons, true_or, or_true])
          refine os (x_field (off' := 23) rfl zt u35 rfl T.s33 rfl) ?_
          refine o_stepN (wA_none rfl) rfl (y_storeAP (off := 23) (d' := (a.withR rW).C) rfl zt zt T.s33 (Rs.C_len okW) ((hfW.same _ ow).trans (by (repeat (first | rw [gn ow] | rw [hfW.same _ ow])) <;> first | rfl | assumption | (rw [gp ow]; done) | (rw [gp ow]; rfl))) rfl (by rw [CL]; omega) (Rs.C_one _) (Ans.set_rs ok okW)) ?_
          refine o_done (se_block ?_)
          refine se_loop ?_
          exact ⟨_, _, _, _, (a.withR rW), rfl, zh, zh, by (repeat (first | rw [gn ow] | rw [hfW.same _ ow])) <;> first | rfl | assumption | (rw [gp ow]; done) | (rw [gp ow]; rfl), ⟨_, by (repeat (first | rw [gn ow] | rw [hfW.same _ ow])) <;> first | rfl | assumption | (rw [gp ow]; done) | (rw [gp ow]; rfl), rfl⟩, (Ans.mkOk (⟨N.n1, N.n2, N.n3, N.n4, N.n5, N.n6, r1, r2, r3, r4, r5⟩ : Ans.Ns (a.withR rW)) pl okW.rl pb okW.rb tl (by show rW.wh.size <= _; omega) gl), (Nat.le_succ _), szW, (Nat.le_succ _), by omega, by omega, by omega, by omega, fun i hi => by (repeat (first | rw [gn ow] | rw [hfW.same _ ow])) <;> first | rfl | assumption | (rw [gp ow]; done) | (rw [gp ow]; rfl)⟩
         ·have p16 := g16; try simp only [dd] at p16
          refine s_region hP hC ?_
          refine os (x_bin rfl zt (by rfl) b_eql) ?_
          refine oA ?_
          refine o_done (se_seq ?_)
          refine s_cond zt (fun g18 => ?_) (fun g18 => ?_)
          ·have p18 := g18; try simp only [dd] at p18
           refine s_region hP hC ?_
           refine os (x_field (off' := 23) rfl zt u35 rfl T.s33 rfl) ?_
           refine os (x_loadA rfl zt T.g33 T.s33 (Ans.l_R ok (whole_row hg rfl))) ?_
           refine oM ?_
           refine os (x_bin rfl zt (by rfl) (b_quo zd)) ?_
           refine oM ?_
           refine o_callR (tab_missR zd (tab_hitR (wrong_c (r := a.rs) (Ans.rs_ok ok) (wrap_inR _) hm (by show a.wh.size <= _; omega) ow ow))) (wA_none rfl) rfl rfl rfl zv zd (fun vW hW hRW => ?_)
           obtain ⟨tW, nW, wW, rW, rfl, hfW, rfl, okW, szW⟩ := hRW
           have szW : rW.wh.size <= a.wh.size + 1 := szW
           have qaW := hfW.le
           have qbW := hfW.hi
           have qcW := hfW.wlo
           have qdW := hfW.whi
           have r1 : inR rW.o := okW.nums _ (by simp only [List.mem_cons, true_or, or_true])
           have r2 : inR rW.si := okW.nums _ (by simp only [List.mem_cons, true_or, or_true])
           have r3 : inR rW.st := okW.nums _ (by simp only [List.mem_cons, true_or, or_true])
           have r4 : inR rW.al := okW.nums _ (by simp only [List.mem_cons, true_or, or_true])
           have r5 : inR rW.wa := okW.nums _ (by simp only [List.mem_cons, true_or, or_true])
           refine os (x_field (off' := 23) rfl zt u35 rfl T.s33 rfl) ?_
           refine o_stepN (wA_none rfl) rfl (y_storeAP (off := 23) (d' := (a.withR rW).C) rfl zt zt T.s33 (Rs.C_len okW) ((hfW.same _ ow).trans (by (repeat (first | rw [gn ow] | rw [hfW.same _ ow])) <;> first | rfl | assumption | (rw [gp ow]; done) | (rw [gp ow]; rfl))) rfl (by rw [CL]; omega) (Rs.C_one _) (Ans.set_rs ok okW)) ?_
           refine o_done (se_block ?_)
           refine se_loop ?_
           exact ⟨_, _, _, _, (a.withR rW), rfl, zh, zh, by (repeat (first | rw [gn ow] | rw [hfW.same _ ow])) <;> first | rfl | assumption | (rw [gp ow]; done) | (rw [gp ow]; rfl), ⟨_, by (repeat (first | rw [gn ow] | rw [hfW.same _ ow])) <;> first | rfl | assumption | (rw [gp ow]; done) | (rw [gp ow]; rfl), rfl⟩, (Ans.mkOk (⟨N.n1, N.n2, N.n3, N.n4, N.n5, N.n6, r1, r2, r3, r4, r5⟩ : Ans.Ns (a.withR rW)) pl okW.rl pb okW.rb tl (by show rW.wh.size <= _; omega) gl), (Nat.le_succ _), szW, (Nat.le_succ _), by omega, by omega, by omega, by omega, fun i hi => by (repeat (first | rw [gn ow] | rw [hfW.same _ ow])) <;> first | rfl | assumption | (rw [gp ow]; done) | (rw [gp ow]; rfl)⟩
          ·have p18 := g18; try simp only [dd] at p18
           refine s_seq (s_region hP hC ?_)
           refine os (x_bin rfl zt (by rfl) b_eql) ?_
           refine oA ?_
           refine o_done (se_seq ?_)
           refine s_cond zt (fun g20 => ?_) (fun g20 => ?_)
           ·have p20 := g20; try simp only [dd] at p20
            refine s_region hP hC ?_
            refine os (x_field (off' := 45) rfl zt u35 rfl T.s9 rfl) ?_
            refine os (x_load1 rfl zt T.g9 (Ans.l_sg ok (whole_row hg rfl))) ?_
            refine os (x_bin rfl zt (by rfl) (b_addS (by show a.sg.size + 1 <= _; omega))) ?_
            refine os (x_field (off' := 45) rfl zt u35 rfl T.s9 rfl) ?_
            refine o_stepN (wA_none rfl) rfl (y_store1P (off := 45) (d' := ({ a with sg := a.sg ++ sX } : Ans).C) rfl zt zt rfl T.s9 hg rfl (by rw [CL]; omega) rfl (Ans.set_sg ok)) ?_
            refine o_done (se_block ?_)
            refine se_loop ?_
            exact ⟨_, _, _, _, ({ a with sg := a.sg ++ sX } : Ans), rfl, zh, zh, by (repeat (first | rw [gn ow])) <;> first | rfl | assumption | (rw [gp ow]; done) | (rw [gp ow]; rfl), ⟨_, by (repeat (first | rw [gn ow])) <;> first | rfl | assumption | (rw [gp ow]; done) | (rw [gp ow]; rfl), rfl⟩, (Ans.mkOk (⟨N.n1, N.n2, N.n3, N.n4, N.n5, N.n6, N.n7, N.n8, N.n9, N.n10, N.n11⟩ : Ans.Ns ({ a with sg := a.sg ++ sX } : Ans)) pl rl pb rb tl hl (by show (a.sg ++ sX).size <= _; rw [ByteArray.size_append]; show a.sg.size + 1 <= _; omega)), (Nat.le_succ _), (Nat.le_succ _), (by show (a.sg ++ sX).size <= _; rw [ByteArray.size_append]; exact Nat.le_refl _), by omega, by omega, by omega, by omega, fun i hi => by (repeat (first | rw [gn ow])) <;> first | rfl | assumption | (rw [gp ow]; done) | (rw [gp ow]; rfl)⟩
           ·have p20 := g20; try simp only [dd] at p20
            refine s_seq (s_region hP hC ?_)
            refine os (x_bin rfl zt (by rfl) b_eql) ?_
            refine oA ?_
            refine o_done (se_seq ?_)
            refine s_cond zt (fun g22 => ?_) (fun g22 => ?_)
            ·have p22 := g22; try simp only [dd] at p22
             refine s_region hP hC ?_
             refine os (x_field (off' := 45) rfl zt u35 rfl T.s9 rfl) ?_
             refine os (x_load1 rfl zt T.g9 (Ans.l_sg ok (whole_row hg rfl))) ?_
             refine os (x_field (off' := 45) rfl zt u35 rfl T.s9 rfl) ?_
             refine os (x_load1 rfl zt T.g9 (Ans.l_sg ok (whole_row hg rfl))) ?_
             refine os (x_lenT rfl rfl zv rfl u9) ?_
             refine os (x_bin rfl zt (by rfl) (b_quoS ow ow zd)) ?_
             refine os (x_sliceT rfl zt zt u9 ow ow) ?_
             refine os (x_field (off' := 45) rfl zt u35 rfl T.s9 rfl) ?_
             refine o_stepN (wA_none rfl) rfl (y_store1P (off := 45) (d' := ({ a with sg := a.sg.extract 0 ((a.sg.size : Int) / 2).toNat } : Ans).C) rfl zt zt rfl T.s9 hg rfl (by rw [CL]; omega) rfl (Ans.set_sg ok)) ?_
             refine o_done (se_block ?_)
             refine se_loop ?_
             exact ⟨_, _, _, _, ({ a with sg := a.sg.extract 0 ((a.sg.size : Int) / 2).toNat } : Ans), rfl, zh, zh, by (repeat (first | rw [gn ow])) <;> first | rfl | assumption | (rw [gp ow]; done) | (rw [gp ow]; rfl), ⟨_, by (repeat (first | rw [gn ow])) <;> first | rfl | assumption | (rw [gp ow]; done) | (rw [gp ow]; rfl), rfl⟩, (Ans.mkOk (⟨N.n1, N.n2, N.n3, N.n4, N.n5, N.n6, N.n7, N.n8, N.n9, N.n10, N.n11⟩ : Ans.Ns ({ a with sg := a.sg.extract 0 ((a.sg.size : Int) / 2).toNat } : Ans)) pl rl pb rb tl hl (by show (a.sg.extract _ _).size <= _; rw [ByteArray.size_extract]; omega)), (Nat.le_succ _), (Nat.le_succ _), (by show (a.sg.extract _ _).size <= _; rw [ByteArray.size_extract]; omega), by omega, by omega, by omega, by omega, fun i hi => by (repeat (first | rw [gn ow])) <;> first | rfl | assumption | (rw [gp ow]; done) | (rw [gp ow]; rfl)⟩
            ·have p22 := g22; try simp only [dd] at p22
             refine s_seq (s_region hP hC ?_)
             refine os (x_field (off' := 45) rfl zt u35 rfl T.s9 rfl) ?_
             refine os (x_load1 rfl zt T.g9 (Ans.l_sg ok (whole_row hg rfl))) ?_
             refine os (x_convSB rfl zt u9 u23 u5) ?_
             refine oA ?_
             refine o_done (se_seq (s_seq (s_seq (s_region hP hC (oM ?_)))))
             refine os (x_lenE (sB_len' a.sg) rfl rfl zv rfl u23) ?_
             refine os (x_bin rfl zt (by rfl) b_gtr) ?_
             refine o_done (se_seq ?_)
             refine s_cond zt (fun g24 => ?_) (fun g24 => ?_)
             ·have p24 := g24; try simp only [dd] at p24
              refine s_region hP hC (oM ?_)
              refine oM ?_
              refine oM ?_
              refine os (x_lenE (sB_len' a.sg) rfl rfl zv rfl u23) ?_
              have hsb := sB_len a.sg
              have hs0 : 0 < (a.sg.size : Int) := by first | assumption | (simp only [decide_eq_true_eq] at *; omega)
              have e0 : 0 <= around m a.sg.size := around_lo ow
              have e1 : around m a.sg.size < a.sg.size := around_hi ow
              refine o_call0 (wA_none rfl) rfl rfl rfl zv zd ?_
              refine ⟨_, _, (tab_hit.trans (around_c (by simp only [ok_around, Bool.and_eq_true, decide_eq_true_eq]; exact ⟨hm, by omega⟩))), ?_⟩
              refine os (x_index rfl zt zt u23 T.s5 ow ow) ?_
              refine os (x_load1 rfl zt T.g5 (l_bys (whole_row hg rfl) ow ow)) ?_
              refine os (x_bin rfl zt (by rfl) Go.AM.b_xor8) ?_
              refine os (x_index rfl zt zt u23 T.s5 ow ow) ?_
              refine o_stepN (wA_none rfl) rfl (y_store1P (off := 0 + (around m a.sg.size).toNat * 1) (d' := bys ((sB a.sg).set (around m a.sg.size).toNat (IntKind.u8.wrap ((BitVec.ofInt 8 (ith (sB a.sg) (around m a.sg.size)) ^^^ BitVec.ofInt 8 1).toNat : Int)))) rfl zt zt rfl T.s5 hg rfl (by rw [bys_len]; omega) rfl (by rw [Nat.zero_add, Nat.mul_one]; exact splice_set ow)) ?_
              refine o_done (se_seq (s_region hP hC (oM ?_)))
              refine os (x_convBS (l := ((sB a.sg).set (around m a.sg.size).toNat (IntKind.u8.wrap ((BitVec.ofInt 8 (ith (sB a.sg) (around m a.sg.size)) ^^^ BitVec.ofInt 8 1).toNat : Int)))) rfl zt u23 u5 u9 (l_all (whole_row hg rfl) (by rw [bys_len]; rw [List.length_set]))) ?_
              refine os (x_field (off' := 45) rfl zt u35 rfl T.s9 rfl) ?_
              refine o_stepN (wA_none rfl) rfl (y_store1P (off := 45) (d' := ({ a with sg := strB ((sB a.sg).set (around m a.sg.size).toNat (IntKind.u8.wrap ((BitVec.ofInt 8 (ith (sB a.sg) (around m a.sg.size)) ^^^ BitVec.ofInt 8 1).toNat : Int))) } : Ans).C) rfl zt zt rfl T.s9 hg rfl (by rw [CL]; omega) rfl (Ans.set_sg ok)) ?_
              refine o_done (se_block ?_)
              refine se_loop ?_
              exact ⟨_, _, _, _, ({ a with sg := strB ((sB a.sg).set (around m a.sg.size).toNat (IntKind.u8.wrap ((BitVec.ofInt 8 (ith (sB a.sg) (around m a.sg.size)) ^^^ BitVec.ofInt 8 1).toNat : Int))) } : Ans), rfl, zh, zh, by (repeat (first | rw [gn ow])) <;> first | rfl | assumption | (rw [gp ow]; done) | (rw [gp ow]; rfl), ⟨_, by (repeat (first | rw [gn ow])) <;> first | rfl | assumption | (rw [gp ow]; done) | (rw [gp ow]; rfl), rfl⟩, (Ans.mkOk (⟨N.n1, N.n2, N.n3, N.n4, N.n5, N.n6, N.n7, N.n8, N.n9, N.n10, N.n11⟩ : Ans.Ns ({ a with sg := strB ((sB a.sg).set (around m a.sg.size).toNat (IntKind.u8.wrap ((BitVec.ofInt 8 (ith (sB a.sg) (around m a.sg.size)) ^^^ BitVec.ofInt 8 1).toNat : Int))) } : Ans)) pl rl pb rb tl hl (by show (strB ((sB a.sg).set (around m a.sg.size).toNat (IntKind.u8.wrap ((BitVec.ofInt 8 (ith (sB a.sg) (around m a.sg.size)) ^^^ BitVec.ofInt 8 1).toNat : Int)))).size <= _; rw [strB_size]; rw [List.length_set]; have := sB_len a.sg; omega)), (Nat.le_succ _), (Nat.le_succ _), (by show (strB ((sB a.sg).set (around m a.sg.size).toNat (IntKind.u8.wrap ((BitVec.ofInt 8 (ith (sB a.sg) (around m a.sg.size)) ^^^ BitVec.ofInt 8 1).toNat : Int)))).size <= _; rw [strB_size]; rw [List.length_set]; have := sB_len a.sg; omega), by omega, by omega, by omega, by omega, fun i hi => by (repeat (first | rw [gn ow])) <;> first | rfl | assumption | (rw [gp ow]; done) | (rw [gp ow]; rfl)⟩
             ·have p24 := g24; try simp only [dd] at p24
              refine s_skip (se_seq (s_region hP hC (oM ?_)))
              refine os (x_convBS (l := (sB a.sg)) rfl zt u23 u5 u9 (l_all (whole_row hg rfl) (by rw [bys_len]))) ?_
              refine os (x_field (off' := 45) rfl zt u35 rfl T.s9 rfl) ?_
              refine o_stepN (wA_none rfl) rfl (y_store1P (off := 45) (d' := ({ a with sg := strB (sB a.sg) } : Ans).C) rfl zt zt rfl T.s9 hg rfl (by rw [CL]; omega) rfl (Ans.set_sg ok)) ?_
              refine o_done (se_block ?_)
              refine se_loop ?_
              exact ⟨_, _, _, _, ({ a with sg := strB (sB a.sg) } : Ans), rfl, zh, zh, by (repeat (first | rw [gn ow])) <;> first | rfl | assumption | (rw [gp ow]; done) | (rw [gp ow]; rfl), ⟨_, by (repeat (first | rw [gn ow])) <;> first | rfl | assumption | (rw [gp ow]; done) | (rw [gp ow]; rfl), rfl⟩, (Ans.mkOk (⟨N.n1, N.n2, N.n3, N.n4, N.n5, N.n6, N.n7, N.n8, N.n9, N.n10, N.n11⟩ : Ans.Ns ({ a with sg := strB (sB a.sg) } : Ans)) pl rl pb rb tl hl (by show (strB (sB a.sg)).size <= _; rw [strB_size]; have := sB_len a.sg; omega)), (Nat.le_succ _), (Nat.le_succ _), (by show (strB (sB a.sg)).size <= _; rw [strB_size]; have := sB_len a.sg; omega), by omega, by omega, by omega, by omega, fun i hi => by (repeat (first | rw [gn ow])) <;> first | rfl | assumption | (rw [gp ow]; done) | (rw [gp ow]; rfl)⟩
 ·skip
  rintro _ ⟨e, t1, nx1, wq1, b, rfl, he3, he6, hr, ⟨z, hz, hzl⟩, ok', s1, s2, s3, nb1, nb2, w1, w2, hx1⟩
  have CL' := Ans.C_len ok'
  refine s_seq (s_region hP hC ?_)
  refine os (x_loadA rfl za T.g35 T.s35 (l_all (whole_row hr rfl) CL'.symm)) ?_
  refine o_stepN (wA_none rfl) rfl (y_storeA rfl za za T.s35 CL' hz rfl hzl.symm (Ans.C_one _)) ?_
  refine o_done (se_seq ?_)
  refine s_ret ?_
  refine ⟨.inr rfl, _, (resA_cell za T.g35 T.s35 (l_all (whole_row (show Tr.get _ (nx + 1) = _ from by rw [gp rfl]) rfl) CL'.symm) resA_nil), fun a2 n2 m2 hs2 ok2 => ?_⟩
  simp only [List.cons.injEq, Value.agg.injEq, Array.mk.injEq, Value.int.injEq, and_true, true_and] at hs2
  obtain rfl := Ans.C_inj ok ok2 hs2.1
  exact ⟨_, _, _, b, rfl, ⟨by show nx <= nx1; omega, nb2, by show min wr nx <= _; omega, by show _ <= wr; omega, fun i (hi : i < nx) => by show _ = t.get i; rw [gn ow]; exact hx1 i hi⟩, rfl, ok', s1, s2, s3⟩
end Go.Proofs.YtfgmplbclpadbaaGreatDoor
namespace Go.Proofs.YtfgmplbclpadbaaGreatDoor
open Go Go.AM
set_option maxRecDepth 100000
theorem fill_step {off sz : Nat} {v : Value} {cs pre z suf : List Value} (hv : v.cells.toList = cs) (hc : cs.length = sz) (hz : z.length = sz) (hp : pre.length = off) {i : Nat} (hi : i * sz = off) {ps : List (Nat × Value)} :
  Instr.fill (fun i => some (i * sz, sz)) ⟨pre ++ (z ++ suf)⟩ ((i, v) :: ps) = Instr.fill (fun i => some (i * sz, sz)) ⟨(pre ++ cs) ++ suf⟩ ps := by
 have hs : v.cells.size = sz := by rw [<-Array.length_toList, hv, hc]
 have key : ∀ (vs : List Value) (j : Nat) (p z : List Value), z.length = vs.length -> p.length = off + j -> (vs.zipIdx j).foldl (fun (c : Array Value) (x : Value × Nat) => c.setIfInBounds (off + x.2) x.1) (⟨p ++ (z ++ suf)⟩ : Array Value) = ⟨(p ++ vs) ++ suf⟩ := by
  intro vs
  induction vs with
  | nil => intro j p z hz hp; cases z with
   | nil => simp
   | cons a l => simp at hz
  | cons v vs ih =>
   intro j p z hz hp
   cases z with
   | nil => simp at hz
   | cons a z =>
    rw [List.zipIdx_cons, List.foldl_cons]
    have e : (⟨p ++ (a :: z ++ suf)⟩ : Array Value).setIfInBounds (off + j) v = ⟨(p ++ [v]) ++ (z ++ suf)⟩ := by
     apply Array.ext'
     rw [Array.toList_setIfInBounds]
     simp only
     rw [List.set_append_right _ _ (by omega), hp, Nat.sub_self]
     simp
    rw [e, ih (j + 1) (p ++ [v]) z (by simpa using hz) (by simp [hp]; omega)]
    simp
 rw [Instr.fill]
 simp only [hi]
 rw [if_neg (by
  have h2 : (⟨pre ++ (z ++ suf)⟩ : Array Value).size = off + (sz + suf.length) := by
   show (pre ++ (z ++ suf)).length = _
   rw [List.length_append, List.length_append, hp, hz]
  rw [hs, h2]
  simp)]
 congr 1
 have := key cs 0 pre z (by omega) (by omega)
 rw [<-Array.foldl_toList, Array.toList_zipIdx, hv]
 exact this
theorem fill5 {Z : List Value} {a b c d e : List Value} (hz : Z.length = 46) (ha : a.length = 46) (hb : b.length = 46) (hc : c.length = 46) (hd : d.length = 46) (he : e.length = 46) :
  Instr.fill (fun i => some (i * 46, 46)) ⟨zerosC Z 5⟩ [(0, .agg ⟨a⟩), (1, .agg ⟨b⟩), (2, .agg ⟨c⟩), (3, .agg ⟨d⟩), (4, .agg ⟨e⟩)] = some ⟨([a, b, c, d, e]).flatten⟩ := by
 have e0 : zerosC Z 5 = [] ++ (Z ++ (Z ++ (Z ++ (Z ++ (Z ++ []))))) := rfl
 rw [e0, fill_step (v := .agg ⟨a⟩) (cs := a) (off := 0) rfl ha hz rfl rfl, fill_step (v := .agg ⟨b⟩) (cs := b) (off := 46) rfl hb hz (by simp only [List.nil_append]; omega) rfl, fill_step (v := .agg ⟨c⟩) (cs := c) (off := 92) rfl hc hz (by simp only [List.nil_append, List.length_append]; omega) rfl,
  fill_step (v := .agg ⟨d⟩) (cs := d) (off := 138) rfl hd hz (by simp only [List.nil_append, List.length_append]; omega) rfl, fill_step (v := .agg ⟨e⟩) (cs := e) (off := 184) rfl he hz (by simp only [List.nil_append, List.length_append]; omega) rfl, Instr.fill]
 simp only [List.flatten_cons, List.flatten_nil, List.append_nil, List.nil_append, List.append_assoc]
theorem ok5s {a b c d e : Ans} (ha : a.Ok) (hb : b.Ok) (hc : c.Ok) (hd : d.Ok) (he : e.Ok) : ∀ x ∈ [a, b, c, d, e], x.Ok := fun x hx => by
 simp only [List.mem_cons, List.not_mem_nil, or_false] at hx
 rcases hx with rfl | rfl | rfl | rfl | rfl <;> assumption
theorem flat46 : ∀ {L : List Ans} {i : Nat} {a : Ans}, (∀ x ∈ L, x.Ok) -> L[i]? = some a -> ∃ p q, (L.map Ans.C).flatten = p ++ (a.C ++ q) /\ p.length = i * 46
 | x :: L, 0, a, h, e => by cases e; exact ⟨[], _, rfl, rfl⟩
 | x :: L, i + 1, a, h, e => by
  obtain ⟨p, q, h1, h2⟩ := flat46 (L := L) (i := i) (fun y hy => h y (.tail _ hy)) e
  exact ⟨x.C ++ p, q, by rw [List.map_cons, List.flatten_cons, h1, List.append_assoc], by rw [List.length_append, Ans.C_len (h x (.head _)), h2]; omega⟩
section
variable {h : AH} {id : Nat} {Ls : List Ans} {i : Int} {a : Ans}
theorem la_at (hw : Whole h id (Ls.map Ans.C).flatten) (hL : ∀ x ∈ Ls, x.Ok) (h0 : 0 <= i) (ha : Ls[i.toNat]? = some a) {off k : Nat} (hk : off + k <= 46) : loadC h id (0 + i.toNat * 46 + off) k = some ((a.C.drop off).take k) := by
 obtain ⟨p, q, h1, h2⟩ := flat46 hL ha
 have hl := Ans.C_len (hL a (List.mem_of_getElem? ha))
 rw [h1] at hw
 rw [l_whole hw _ _ (by rw [List.length_append, List.length_append]; omega), Nat.zero_add, <-List.drop_drop, List.drop_left' h2, List.drop_append_of_le_length (by omega), List.take_append_of_le_length (by rw [List.length_drop]; omega)]
theorem la (hw : Whole h id (Ls.map Ans.C).flatten) (hL : ∀ x ∈ Ls, x.Ok) (h0 : 0 <= i) (ha : Ls[i.toNat]? = some a) : loadC h id (0 + i.toNat * 46) 46 = some a.C := by
 have := la_at hw hL h0 ha (off := 0) (k := 46) (by decide)
 rw [Nat.add_zero] at this
 rw [this, List.drop_zero, List.take_of_length_le (by rw [Ans.C_len (hL a (List.mem_of_getElem? ha))]; decide)]
theorem la_sg (hw : Whole h id (Ls.map Ans.C).flatten) (hL : ∀ x ∈ Ls, x.Ok) (h0 : 0 <= i) (ha : Ls[i.toNat]? = some a) : loadC h id (0 + i.toNat * 46 + 45) 1 = some [.string a.sg] := by
 have ok := hL a (List.mem_of_getElem? ha)
 rw [la_at hw hL h0 ha (by decide), Ans.C_eq, <-List.append_assoc, <-List.append_assoc, List.drop_left' (by rw [List.length_append, List.length_append, Ans.X_len ok, Ans.R_len ok]; rfl)]
 rfl
theorem la_ts (hw : Whole h id (Ls.map Ans.C).flatten) (hL : ∀ x ∈ Ls, x.Ok) (h0 : 0 <= i) (ha : Ls[i.toNat]? = some a) : loadC h id (0 + i.toNat * 46 + 18) 1 = some [.string a.ts] := by
 have ok := hL a (List.mem_of_getElem? ha)
 rw [la_at hw hL h0 ha (by decide), Ans.C_parts, <-List.append_assoc, List.drop_left' (by rw [List.length_append, bys_len, ok.pl]; rfl)]
 rfl
theorem la_wh (hw : Whole h id (Ls.map Ans.C).flatten) (hL : ∀ x ∈ Ls, x.Ok) (h0 : 0 <= i) (ha : Ls[i.toNat]? = some a) : loadC h id (0 + i.toNat * 46 + 24) 1 = some [.string a.wh] := by
 have ok := hL a (List.mem_of_getElem? ha)
 rw [la_at hw hL h0 ha (by decide), Ans.C_eq, show (24 : Nat) = 23 + 1 from rfl, <-List.drop_drop, <-List.append_assoc, List.drop_left' (by rw [List.length_append, Ans.X_len ok]; rfl)]
 rfl
end
theorem a0_short {a : Ans} {s : ByteArray} (ok : a.Ok) (hs : s.size <= 40) : ({ a with sg := s } : Ans).Ok := ⟨ok.nums, ok.pl, ok.rl, ok.pb, ok.rb, ok.tl, ok.hl, by show s.size <= _; omega⟩
theorem msgB_byt {a : Ans} (h : Byt (encB a)) : Byt (msgB a) := fun x hx => h x (by unfold encB; exact List.mem_append_left _ hx)
theorem same_eq {a b : Ans} (ha : a.Ok) (hb : b.Ok) : decide (encB a = encB b) = eqCs a.C b.C := by
 by_cases h : a = b
 ·subst h
  rw [decide_eq_true rfl, (eqCs_iff (Ans.C_cf ha)).2 rfl]
 ·rw [decide_eq_false fun q => h ((encB_iff ha hb).1 q)]
  cases hq : eqCs a.C b.C with
  | false => rfl
  | true => exact absurd (Ans.C_inj ha hb ((eqCs_iff (Ans.C_cf ha)).1 hq)) h
theorem x_notT {P : Program} {call : Call'} {e : Tr Value} {h : AH} {o : Oper} {T : TypeId} {x : Operand} (ho : o.op = .unOp .not T x) (hx : ev e x = some (.bool true)) : doOp P call e h o = some (.bool false, h) := x_not ho hx
theorem b_neqBB {xo yo : Operand} {b : Bool} : binV Tryz.prog .neq 4 xo yo (.bool b) (.bool b) = some (.bool false) := by
 unfold binV
 rw [show free1 (.bool b) = true from rfl]
 simp only [Bool.and_self, if_true]
 have eg : quick Tryz.prog (eqGuard .neq 4 xo yo (.bool b) (.bool b)) = some () := rfl
 rw [q_bind eg]
 have h := eq_flat 1 4 [.bool] (by unfold flatTy; rw [Tryz.underlying4]) 9999 [.bool b] [.bool b] (.bool b) (.bool b) rfl rfl (by unfold packV; rw [T.g4]) (by unfold packV; rw [T.g4])
 have h : quick Tryz.prog (Op.equal 4 (.bool b) (.bool b)) = some (eqCs [.bool b] [.bool b]) := h
 have e : quick Tryz.prog (binOp .neq 4 (.bool b) (.bool b)) = quick Tryz.prog (do pure (Value.bool (!(← Op.equal 4 (.bool b) (.bool b))))) := rfl
 rw [e, q_bind h]
 cases b <;> rfl
end Go.Proofs.YtfgmplbclpadbaaGreatDoor
