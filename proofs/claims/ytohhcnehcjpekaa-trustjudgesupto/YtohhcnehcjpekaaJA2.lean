/-
  An abstract machine for the model, part 2: what it computes, the model does, whatever is drawn. No conditions beyond those that its theorems name.
-/
import Derived.IntWalk
import Derived.Laws.StructEq
import Derived.ChangeKeysEq
import Derived.Test.YtohhcnehcjpekaaJA1
namespace Go.AM
structure Grow (β : Ren) (w : World) (β' : Ren) (w' : World) : Prop where
 sub : Sub β β'
 blk : ∀ id x, β' id = some x → β id = none → w.heap.size ≤ x.g
 size : w.heap.size ≤ w'.heap.size
 os : w'.os = w.os
 tape : w'.tape = w.tape
 output : w'.output = w.output
 frame : ∀ b, b < w.heap.size → w'.heap[b]? = w.heap[b]?
theorem Grow.refl (β : Ren) (w : World) : Grow β w β w := ⟨.refl _, fun id x a b => (by rw [a] at b; cases b), Nat.le_refl _, rfl, rfl, rfl, fun _ _ => rfl⟩
structure J (P : Program) (ops : Array Oper) (S : Nat → St) (I : Nat → Inf) (sb : Nat → Bool) (k0 m0 : Nat) (β0 : Ren) (w0 : World) (q : Nat) (β : Ren) (a : Act) (w : World) (L : Nat → Prop) : Prop where
 dc : ∀ i j, Pr ops i j → L j → L i
 hr : HR β (S q).h w
 hd : Marks m0 β w a.defers
 sz : a.tmps.size = (S 0).sz
 env : ∀ t, ∃ m, m ≤ ops.size ∧ (∀ i o, ops[i]? = some o → o.dst = some t → (L i ↔ i < m)) ∧ RelO β ((S m).e.get t) a.tmps[t]?
 qn : k0 ≤ q ∧ q ≤ ops.size
 hi : ∀ i, q ≤ i → i < ops.size → sb i = false → ¬ L i
 ph : (q = k0 ∧ Grow β0 w0 β w ∧ (∀ id x, β id = some x → β0 id = none → (S 0).h.next ≤ id) ∧
   ∀ i, i < k0 → ∀ id, (S i).h.next ≤ id → id < (S (i + 1)).h.next → ((β id).isSome = true ↔ L i)) ∨
  (Evo β0 (S 0).h w0 β (S q).h w ∧ ∀ i, i < q → sb i = false → L i)
section
variable {P : Program} {call : Call'} {ops : Array Oper} {S : Nat → St} {I : Nat → Inf} {sb : Nat → Bool} {k0 m0 : Nat} {β0 β β' : Ren} {w0 w w' : World} {a : Act} {q : Nat} {L L' : Nat → Prop}
theorem not_stable_of {i : Nat} (h : ¬ sb i = false) : sb i = true := by
 cases hs : sb i with
 | true => rfl
 | false => exact absurd hs h
theorem J.look (hP : Plan P call ops S I β0 sb k0) (hJ : J P ops S I sb k0 m0 β0 w0 q β a w L) {j : Nat} {o : Oper} (ho : ops[j]? = some o) (hpre : ∀ i, Pr ops i j → L i) (hnj : ¬ L j)
  {t : Nat} (ht : t ∈ o.looksAt ops ∨ o.dst = some t) : RelO β ((S j).e.get t) a.tmps[t]? := by
 obtain ⟨m, m1, m2, m3⟩ := hJ.env t
 have hjn : j < ops.size := (Array.getElem?_eq_some_iff.1 ho).1
 have hord : ∀ i oi, ops[i]? = some oi → oi.dst = some t → i ≠ j → ((i < j → Pr ops i j) ∧ (j < i → Pr ops j i)) := fun i oi hi hd hne => by
  rcases (drawOk_spec hP.ok ho).2 i oi hi hne with k | k
  ·exact k
  ·have := k t hd
   rcases ht with h | h
   ·exact absurd h this.1
   ·exact absurd h this.2
 have : (S m).e.get t = (S j).e.get t := by
  rcases Nat.le_total m j with h | h
  ·refine (hP.T.slot' h (by omega) fun i oi h1 h2 hi hd => ?_).symm
   have k1 := (hord i oi hi hd (by omega)).1 h2
   have := (m2 i oi hi hd).1 (hpre i k1)
   omega
  ·refine hP.T.slot' h m1 fun i oi h1 h2 hi hd => ?_
   have k1 := (m2 i oi hi hd).2 h2
   by_cases hij : i = j
   ·subst hij; exact hnj k1
   ·exact hnj (hJ.dc _ _ ((hord i oi hi hd hij).2 (by omega)) k1)
 rw [← this]
 exact m3
theorem J.put (hP : Plan P call ops S I β0 sb k0) (hJ : J P ops S I sb k0 m0 β0 w0 q β a w L) {j : Nat} {o : Oper} (ho : ops[j]? = some o) (hpre : ∀ i, Pr ops i j → L i) (hnj : ¬ L j)
  (hL : ∀ i, L' i ↔ (L i ∨ i = j)) {v v' : Value} (hp : putE (S j).e (S 0).sz o.dst v = some (S (j + 1)).e) (hs : Sub β β') (hv : VR β' v v') :
  ∀ t, ∃ m, m ≤ ops.size ∧ (∀ i o, ops[i]? = some o → o.dst = some t → (L' i ↔ i < m)) ∧ RelO β' ((S m).e.get t) (a.put o.dst v').tmps[t]? := by
 intro t
 have hjn : j < ops.size := (Array.getElem?_eq_some_iff.1 ho).1
 by_cases hd : o.dst = some t
 ·refine ⟨j + 1, hjn, fun i oi hi hdi => ?_, ?_⟩
  ·rw [hL]
   by_cases hij : i = j
   ·subst hij; exact ⟨fun _ => Nat.lt_succ_self _, fun _ => .inr rfl⟩
   ·have hord : (i < j → Pr ops i j) ∧ (j < i → Pr ops j i) := by
     rcases (drawOk_spec hP.ok ho).2 i oi hi hij with k | k
     ·exact k
     ·exact absurd hd (k t hdi).2
    constructor
    ·rintro (h | h)
     ·rcases Nat.lt_or_ge j i with g | g
      ·exact absurd (hJ.dc _ _ (hord.2 g) h) hnj
      ·omega
     ·exact absurd h hij
    ·intro h; exact .inl (hpre i (hord.1 (by omega)))
  ·rw [hd] at hp
   simp only [putE] at hp
   split at hp
   ·have hp := Option.some.inj hp
    have hlt : t < a.tmps.size := by rw [hJ.sz]; assumption
    rw [← hp, Tr.get_set_eq, hd]
    simp only [Act.put, Array.getElem?_setIfInBounds_self_of_lt hlt]
    exact hv
   ·cases hp
 ·obtain ⟨m, m1, m2, m3⟩ := hJ.env t
  refine ⟨m, m1, fun i oi hi hdi => ?_, ?_⟩
  ·rw [hL, m2 i oi hi hdi]
   constructor
   ·rintro (h | h)
    ·exact h
    ·subst h; rw [ho] at hi; cases hi; exact absurd hdi hd
   ·exact .inl
  ·have : (a.put o.dst v').tmps[t]? = a.tmps[t]? := by
    cases hd' : o.dst with
    | none => rfl
    | some u =>
     rw [hd'] at hd
     exact Array.getElem?_setIfInBounds_ne fun e => hd (by rw [e])
   rw [this]
   exact m3.mono hs
theorem J.dc' (hJ : J P ops S I sb k0 m0 β0 w0 q β a w L) {j : Nat} (hpre : ∀ i, Pr ops i j → L i) (hL : ∀ i, L' i ↔ (L i ∨ i = j)) : ∀ i k, Pr ops i k → L' k → L' i := by
 intro i k h1 h2
 rw [hL] at h2 ⊢
 rcases h2 with h2 | rfl
 ·exact .inl (hJ.dc _ _ h1 h2)
 ·exact .inl (hpre i h1)
theorem J.full (hP : Plan P call ops S I β0 sb k0) (hJ : J P ops S I sb k0 m0 β0 w0 q β a w L) (hall : ∀ i, i < q → sb i = false → L i) : Evo β0 (S 0).h w0 β (S q).h w := by
 rcases hJ.ph with ⟨rfl, hg, hn, hd⟩ | ⟨hE, _⟩
 ·have T := hP.T
  exact {
   sub := hg.sub
   new := hn
   all := fun id h1 h2 => by
    obtain ⟨i, k1, k2, k3⟩ := tra_range h1 _ hP.k0n h2
    refine (hd i k1 id k2 k3).2 (hall i k1 ?_)
    cases hs : sb i with
    | false => rfl
    | true =>
     have := T.heap (i := i) (Nat.lt_of_lt_of_le k1 hP.k0n) (hP.stl i (Nat.lt_of_lt_of_le k1 hP.k0n) hs)
     rw [this] at k3
     omega
   blk := fun id x h1 h2 => .inl (hg.blk id x h1 h2)
   size := hg.size
   os := hg.os
   tape := hg.tape
   output := hg.output
   frame := fun b hb => .inl (hg.frame b hb)
   next := T.mono' (Nat.zero_le _) hP.k0n
   wr := T.wrs _ hP.k0n
   root := fun id h1 => by have := (T.roots h1 q (by have := hP.k0n; omega)).1; rwa [Nat.zero_add] at this
   ro := fun id h1 => by have := (T.roots h1 q (by have := hP.k0n; omega)).2; rwa [Nat.zero_add] at this
   objs := fun id h1 _ => (T.keep' (Nat.zero_le _) hP.k0n h1 fun i _ h2 => .inl (hP.early i h2)).1 }
 ·exact hE
theorem HR.move {β β1 : Ren} {h h1 : AH} (hr : HR β h w) (hs : ∀ id x, β1 id = some x → β id = some x ∧ id < h1.next ∧ h1.fam id = h.fam id ∧ h1.t.get id = h.t.get id)
  (hc1 : ∀ id x f, β1 id = some x → h1.fam id = some f → ∀ p v v', f.lo ≤ p → p < f.rb id → f.data[p]? = some v → VR β v v' → VR β1 v v')
  (hc3 : ∀ id x r, β1 id = some x → h1.t.get id = some (.loop r) → ∀ t v v', r.e.get t = some v → VR β v v' → VR β1 v v')
  (hc2 : ∀ id x es ck, β1 id = some x → h1.t.get id = some (.map es ck) → ∀ (i : Nat) en v', es[i]? = some en → VR β en.val v' → VR β1 en.val v') : HR β1 h1 w := by
 refine ⟨fun id x hx => ⟨(hs id x hx).2.1, (hr.dom id x (hs id x hx).1).2⟩, fun id x f hx hf => ?_, fun id x es ck hx hm => ?_, fun id x r hx hm => ?_, fun id id' x x' hx hx' hg => ?_⟩
 ·obtain ⟨k1, k2, k3, k4⟩ := hs id x hx
  obtain ⟨m1, c, el, fz, m2, m3, m4, m5⟩ := hr.row id x f k1 (by rw [← k3]; exact hf)
  refine ⟨m1, c, el, fz, m2, m3, fun p v q1 q2 q3 => ?_, m5⟩
  obtain ⟨v', e1, e2⟩ := m4 p v q1 q2 q3
  exact ⟨v', e1, hc1 id x f hx hf p v v' q1 q2 q3 e2⟩
 ·obtain ⟨k1, k2, k3, k4⟩ := hs id x hx
  obtain ⟨es', m1, m2⟩ := hr.map id x es ck k1 (by rw [← k4]; exact hm)
  exact ⟨es', m1, m2.1, fun i en b h1 h2 => ⟨(m2.2 i en b h1 h2).key, (m2.2 i en b h1 h2).fk, hc2 id x es ck hx hm i en _ h1 (m2.2 i en b h1 h2).val, (m2.2 i en b h1 h2).born⟩⟩
 ·obtain ⟨k1, k2, k3, k4⟩ := hs id x hx
  obtain ⟨r', m1, m2⟩ := hr.loop id x r k1 (by rw [← k4]; exact hm)
  refine ⟨r', m1, { m2 with env := fun t v hv => ?_ }⟩
  obtain ⟨v', e1, e2⟩ := m2.env t v hv
  exact ⟨v', e1, hc3 id x r hx hm t v v' hv e2⟩
 ·obtain ⟨k1, k2, k3, k4⟩ := hs id x hx
  obtain ⟨l1, l2, l3, l4⟩ := hs id' x' hx'
  rcases hr.disj id id' x x' k1 l1 hg with r | ⟨f, f', r1, r2, r3⟩
  ·exact .inl r
  ·exact .inr ⟨f, f', by rw [k3]; exact r1, by rw [l3]; exact r2, r3⟩
theorem HR.move' {β : Ren} {h h1 : AH} (hr : HR β h w) (hs : ∀ id x, β id = some x → id < h1.next ∧ h1.fam id = h.fam id ∧ h1.t.get id = h.t.get id) : HR β h1 w :=
 hr.move (fun id x hx => ⟨hx, hs id x hx⟩) (fun _ _ _ _ _ _ _ _ _ _ _ h => h) (fun _ _ _ _ _ _ _ _ _ h => h) (fun _ _ _ _ _ _ _ _ _ _ h => h)
theorem J.init (hP : Plan P call ops S I β0 sb k0) (hR : Rst m0 β0 (S 0) a w0) (hL : ∀ i, ¬ L i) : J P ops S I sb k0 m0 β0 w0 k0 β0 a w0 L where
 dc := fun i j _ h => absurd h (hL j)
 hr := hR.hr.move' fun id x hx => by
  have hid := (hR.hr.dom id x hx).1
  have := hP.T.keep' (Nat.zero_le _) hP.k0n hid fun i _ h2 => .inl (hP.early i h2)
  exact ⟨Nat.lt_of_lt_of_le hid (hP.T.mono' (Nat.zero_le _) hP.k0n), this.2, this.1⟩
 hd := hR.hd
 sz := hR.sz
 env := fun t => ⟨0, Nat.zero_le _, fun i o _ _ => ⟨fun h => absurd h (hL i), fun h => absurd h (Nat.not_lt_zero i)⟩, envW_iff.1 hR.he t⟩
 qn := ⟨Nat.le_refl _, hP.k0n⟩
 hi := fun i _ _ _ => hL i
 ph := .inl ⟨rfl, .refl _ _, fun id x h1 h2 => by (rw [h1] at h2; cases h2), fun i hi id h1 h2 => by
  refine ⟨fun h => ?_, fun h => absurd h (hL i)⟩
  cases hb : β0 id with
  | none => rw [hb] at h; cases h
  | some x =>
   have := (hR.hr.dom id x hb).1
   have := hP.T.mono' (m := 0) (m' := i) (Nat.zero_le _) (by have := hP.k0n; omega)
   omega⟩
theorem J.fin (hP : Plan P call ops S I β0 sb k0) (hJ : J P ops S I sb k0 m0 β0 w0 q β a w L) (hL : ∀ i, i < ops.size → L i) : Rst m0 β (S ops.size) a w ∧ Evo β0 (S 0).h w0 β (S ops.size).h w := by
 have hq : (S ops.size).h = (S q).h := by
  have := hP.T.heaps (m := q) (ops.size - q) (by have := hJ.qn; omega) fun i h1 h2 => by
   have hi : i < ops.size := by have := hJ.qn; omega
   exact hP.stl i hi (not_stable_of fun hs => hJ.hi i h1 hi hs (hL i hi))
  rwa [show q + (ops.size - q) = ops.size by have := hJ.qn; omega] at this
 have hE := hJ.full hP fun i h1 _ => hL i (by have := hJ.qn; omega)
 refine ⟨⟨by rw [hq]; exact hJ.hr, hP.T.wf _ (Nat.le_refl _), envW_iff.2 fun t => ?_, by rw [hP.T.sz _ (Nat.le_refl _)]; exact hJ.sz, hJ.hd⟩, by rw [hq]; exact hE⟩
 obtain ⟨m, m1, m2, m3⟩ := hJ.env t
 rw [hP.T.slot' m1 (Nat.le_refl _) fun i o h1 h2 hi hd => by have := (m2 i o hi hd).1 (hL i h2); omega]
 exact m3
end
end Go.AM
namespace Go.AM
section
variable {P : Program} {call : Call'} {ops : Array Oper} {S : Nat → St} {I : Nat → Inf} {sb : Nat → Bool} {k0 m0 : Nat} {β0 β β' : Ren} {w0 w w' : World} {a : Act} {q : Nat} {L L' : Nat → Prop}
theorem envW_restr (hP : Plan P call ops S I β0 sb k0) (hJ : J P ops S I sb k0 m0 β0 w0 q β a w L) {j : Nat} {o : Oper} (ho : ops[j]? = some o) (hpre : ∀ i, Pr ops i j → L i) (hnj : ¬ L j) :
  EnvW β (restr (S j).e (o.looksAt ops)) a.tmps := by
 intro t v hv
 rw [get_restr] at hv
 split at hv
 ·rename_i ht
  have := hJ.look hP ho hpre hnj (.inl ht)
  rw [hv] at this
  exact this.some
 ·cases hv
theorem restr_same (e : Tr Value) {l : List Nat} : ∀ t ∈ l, (restr e l).get t = e.get t := fun t ht => by rw [get_restr, if_pos ht]
theorem Evo.dom_eq {h h' : AH} (hr' : HR β' h' w') (hE : Evo β h w β' h' w') (hn : h'.next = h.next) {id : Nat} {x : Bx} (hx : β' id = some x) : β id = some x := by
 cases hb : β id with
 | none => have := hE.new id x hx hb; have := (hr'.dom id x hx).1; omega
 | some y => have := hE.sub _ _ hb; rw [hx] at this; cases this; rfl
theorem J.stepLook (hP : Plan P call ops S I β0 sb k0) (hJ : J P ops S I sb k0 m0 β0 w0 q β a w L) {j : Nat} {o : Oper} (ho : ops[j]? = some o) (hpre : ∀ i, Pr ops i j → L i) (hnj : ¬ L j) (hL : ∀ i, L' i ↔ (L i ∨ i = j))
  (hst : sb j = true) {v v' : Value} (hp : putE (S j).e (S 0).sz o.dst v = some (S (j + 1)).e) (hd : Done β { (S q).h with wr := BIG } w v { (S q).h with wr := BIG } v' w') (hr0 : HR β0 (S 0).h w0) :
  ∃ β', J P ops S I sb k0 m0 β0 w0 q β' (a.put o.dst v') w' L' := by
 obtain ⟨β', k1, k2, k3, k4⟩ := hd
 have hq := hJ.qn
 have hdom : ∀ {id x}, β' id = some x → β id = some x := fun hx => k4.dom_eq k2 rfl hx
 have hE : Evo β (S q).h w β' (S q).h w' := by
  have := k4.wr_min
  have e : ({ ({ (S q).h with wr := BIG } : AH) with wr := min (S q).h.wr BIG } : AH) = (S q).h := by rw [Nat.min_eq_left (hP.T.big q hq.2).1]
  rwa [e] at this
 have hsub : ∀ i, sb i = false → (L' i ↔ L i) := fun i hs => by
  rw [hL]
  exact ⟨fun h => h.elim id fun e => (by rw [e, hst] at hs; cases hs), .inl⟩
 refine ⟨β', hJ.dc' hpre hL, (k2.wr_any (S q).h.wr), by rw [put_defers]; exact hJ.hd.evo k4, by rw [put_size]; exact hJ.sz, hJ.put hP ho hpre hnj hL hp k4.sub k1, hq, fun i h1 h2 h3 h4 => hJ.hi i h1 h2 h3 ((hsub i h3).1 h4), ?_⟩
 rcases hJ.ph with ⟨p1, p2, p3, p4⟩ | ⟨p1, p2⟩
 ·refine .inl ⟨p1, ⟨p2.sub.trans k4.sub, fun id x h1 h2 => p2.blk id x (hdom h1) h2, Nat.le_trans p2.size k4.size, k4.os.trans p2.os, k4.tape.trans p2.tape, k4.output.trans p2.output, fun b hb => ?_⟩, fun id x h1 h2 => p3 id x (hdom h1) h2, fun i hi id h1 h2 => ?_⟩
  ·rcases k4.frame b (Nat.lt_of_lt_of_le hb p2.size) with g | ⟨id, x, g1, g2, g3, _⟩
   ·exact g.trans (p2.frame b hb)
   ·have g4 := root_lt (hP.T.wf q hq.2) (hJ.hr.dom id x g1).1
    have g5 := (hP.T.big q hq.2).2
    have g6 : BIG ≤ rootOf (S q).h id := g3
    omega
  ·have hk := hP.k0n
   have hiff : (β' id).isSome = true ↔ (β id).isSome = true := by
    constructor
    ·intro h
     cases hb : β' id with
     | none => rw [hb] at h; cases h
     | some x => rw [hdom hb]; rfl
    ·intro h
     cases hb : β id with
     | none => rw [hb] at h; cases h
     | some x => rw [k4.sub _ _ hb]; rfl
   rw [hiff, p4 i hi id h1 h2]
   refine (hsub i ?_).symm
   cases hs : sb i with
   | false => rfl
   | true =>
    have := hP.T.heap (i := i) (by omega) (hP.stl i (by omega) hs)
    rw [this] at h2
    omega
 ·exact .inr ⟨p1.trans hr0 hE, fun i h1 h2 => (hsub i h2).2 (p2 i h1 h2)⟩
theorem J.stepLate (hP : Plan P call ops S I β0 sb k0) (hJ : J P ops S I sb k0 m0 β0 w0 q β a w L) {j : Nat} {o : Oper} (ho : ops[j]? = some o) (hpre : ∀ i, Pr ops i j → L i) (hnj : ¬ L j) (hL : ∀ i, L' i ↔ (L i ∨ i = j))
  (hq : q ≤ j) (hall : ∀ i, i < j → sb i = false → L i) {v v' : Value} {h' : AH} (hp : putE (S j).e (S 0).sz o.dst v = some (S (j + 1)).e) (hh : (S (j + 1)).h = { h' with wr := min (S j).h.wr h'.wr })
  (hsame : (S q).h = (S j).h) (hd : Done β { (S j).h with wr := BIG } w v h' v' w') (hr0 : HR β0 (S 0).h w0) :
  ∃ β', J P ops S I sb k0 m0 β0 w0 (j + 1) β' (a.put o.dst v') w' L' := by
 obtain ⟨β', k1, k2, k3, k4⟩ := hd
 have hjn : j < ops.size := (Array.getElem?_eq_some_iff.1 ho).1
 have hqn := hJ.qn
 have hE0 := hJ.full hP fun i h1 h2 => hall i (by omega) h2
 rw [hsame] at hE0
 have hE : Evo β (S j).h w β' (S (j + 1)).h w' := by rw [hh]; exact k4.wr_min
 refine ⟨β', hJ.dc' hpre hL, (by rw [hh]; exact k2.wr_any _), by rw [put_defers]; exact hJ.hd.evo k4, by rw [put_size]; exact hJ.sz, hJ.put hP ho hpre hnj hL hp k4.sub k1, ⟨by omega, hjn⟩, fun i h1 h2 h3 h4 => ?_, .inr ⟨hE0.trans hr0 hE, fun i h1 h2 => ?_⟩⟩
 ·rcases (hL i).1 h4 with g | g
  ·exact hJ.hi i (by omega) h2 h3 g
  ·omega
 ·rcases Nat.lt_or_ge i j with g | g
  ·exact (hL i).2 (.inl (hall i g h2))
  ·exact (hL i).2 (.inr (by omega))
theorem J.stepEarly (hP : Plan P call ops S I β0 sb k0) (hJ : J P ops S I sb k0 m0 β0 w0 q β a w L) {j : Nat} {o : Oper} (ho : ops[j]? = some o) (hpre : ∀ i, Pr ops i j → L i) (hnj : ¬ L j) (hL : ∀ i, L' i ↔ (L i ∨ i = j))
  (hj : j < k0) (hns : sb j = false) {v v' : Value} {h' : AH} (hp : putE (S j).e (S 0).sz o.dst v = some (S (j + 1)).e) (hh : (S (j + 1)).h = { h' with wr := min (S j).h.wr h'.wr })
  (hw' : (S j).h.next ≤ h'.wr) (hd : Done (res β (S j).h.next) { (S j).h with wr := BIG } w v h' v' w') :
  ∃ β', J P ops S I sb k0 m0 β0 w0 q β' (a.put o.dst v') w' L' := by
 obtain ⟨β2, k1, k2, k3, k4⟩ := hd
 have hk := hP.k0n
 have T := hP.T
 rcases hJ.ph with ⟨p1, p2, p3, p4⟩ | ⟨_, p2⟩
 case inr => exact absurd (p2 j (by have := hJ.qn; omega) hns) hnj
 subst p1
 have hnx : h'.next = (S (j + 1)).h.next := by rw [hh]
 have hjj : (S j).h.next ≤ (S (j + 1)).h.next := T.next j (by omega)
 have hjq : (S (j + 1)).h.next ≤ (S q).h.next := T.mono' hj hk
 -- what is new in β2
 have new2 : ∀ {id x}, β2 id = some x → β id = none → (S j).h.next ≤ id ∧ id < (S (j + 1)).h.next ∧ w.heap.size ≤ x.g := by
  intro id x h1 h2
  have h3 : res β (S j).h.next id = none := by unfold res; split <;> first | exact h2 | rfl
  refine ⟨k4.new id x h1 h3, by rw [← hnx]; exact (k2.dom id x h1).1, ?_⟩
  rcases k4.blk id x h1 h3 with g | ⟨id0, x0, g1, _, g3, _⟩
  ·exact g
  ·have g4 := root_lt (T.wf j (by omega)) (res_some g1).1
   have g5 : h'.wr ≤ rootOf (S j).h id0 := g3
   omega
 have hframe : ∀ b, b < w.heap.size → w'.heap[b]? = w.heap[b]? := by
  intro b hb
  rcases k4.frame b hb with g | ⟨id0, x0, g1, _, g3, _⟩
  ·exact g
  ·have g4 := root_lt (T.wf j (by omega)) (res_some g1).1
   have g5 : h'.wr ≤ rootOf (S j).h id0 := g3
   omega
 let β' : Ren := fun id => match β id with | some x => some x | none => β2 id
 have b1 : ∀ {id x}, β id = some x → β' id = some x := fun {id x} h => by show (match β id with | some x => some x | none => β2 id) = _; rw [h]
 have b2 : ∀ {id}, β id = none → β' id = β2 id := fun {id} h => by show (match β id with | some x => some x | none => β2 id) = _; rw [h]
 have bor : ∀ {id x}, β' id = some x → β id = some x ∨ (β id = none ∧ β2 id = some x) := by
  intro id x h
  cases hb : β id with
  | some y => rw [b1 hb] at h; cases h; exact .inl rfl
  | none => rw [b2 hb] at h; exact .inr ⟨rfl, h⟩
 have hs1 : Sub β β' := fun id x h => b1 h
 have hs2 : Sub β2 β' := by
  intro id x h
  cases hb : β id with
  | none => rw [b2 hb]; exact h
  | some y =>
   rw [b1 hb]
   rcases Nat.lt_or_ge id (S j).h.next with g | g
   ·have := k4.sub id y (by rw [res_lt g]; exact hb)
    rw [this] at h; exact h
   ·have g2 : id < (S (j + 1)).h.next := by rw [← hnx]; exact (k2.dom id x h).1
    have := (p4 j hj id g g2).1 (by rw [hb]; rfl)
    exact absurd this hnj
 -- an object of its own, as it is later
 have own : ∀ {id}, id < (S (j + 1)).h.next → (S q).h.fam id = h'.fam id ∧ (S q).h.t.get id = h'.t.get id := by
  intro id hid
  have := T.keep' (m := j + 1) (m' := q) hj hk hid fun i _ h2 => .inl (hP.early i h2)
  rw [hh] at this
  exact ⟨this.2, this.1⟩
 have heap : HR β' (S q).h w' := by
  refine ⟨fun id x hx => ?_, fun id x f hx hf => ?_, fun id x es ck hx hm => ?_, fun id x r hx hm => ?_, fun id id' x x' hx hx' hg => ?_⟩
  ·rcases bor hx with h | ⟨h, h2⟩
   ·have := hJ.hr.dom id x h; exact ⟨this.1, Nat.lt_of_lt_of_le this.2 k4.size⟩
   ·have := k2.dom id x h2; exact ⟨by omega, this.2⟩
  ·rcases bor hx with h | ⟨h, h2⟩
   ·exact (hJ.hr.row id x f h hf).mono hs1 (hframe _ (hJ.hr.dom id x h).2)
   ·rw [(own (new2 h2 h).2.1).1] at hf
    exact (k2.row id x f h2 hf).mono hs2 rfl
  ·rcases bor hx with h | ⟨h, h2⟩
   ·obtain ⟨es', m1, m2⟩ := hJ.hr.map id x es ck h hm
    exact ⟨es', (hframe _ (hJ.hr.dom id x h).2).trans m1, m2.mono hs1⟩
   ·rw [(own (new2 h2 h).2.1).2] at hm
    obtain ⟨es', m1, m2⟩ := k2.map id x es ck h2 hm
    exact ⟨es', m1, m2.mono hs2⟩
  ·rcases bor hx with h | ⟨h, h2⟩
   ·obtain ⟨r', m1, m2⟩ := hJ.hr.loop id x r h hm
    exact ⟨r', (hframe _ (hJ.hr.dom id x h).2).trans m1, m2.mono hs1⟩
   ·rw [(own (new2 h2 h).2.1).2] at hm
    obtain ⟨r', m1, m2⟩ := k2.loop id x r h2 hm
    exact ⟨r', m1, m2.mono hs2⟩
  ·rcases bor hx with h | ⟨h, h2⟩
   ·rcases bor hx' with l | ⟨l, l2⟩
    ·exact hJ.hr.disj id id' x x' h l hg
    ·have := (hJ.hr.dom id x h).2; have := (new2 l2 l).2.2; omega
   ·rcases bor hx' with l | ⟨l, l2⟩
    ·have := (hJ.hr.dom id' x' l).2; have := (new2 h2 h).2.2; omega
    ·rcases k2.disj id id' x x' h2 l2 hg with r | ⟨f, f', r1, r2, r3⟩
     ·exact .inl r
     ·exact .inr ⟨f, f', by rw [(own (new2 h2 h).2.1).1]; exact r1, by rw [(own (new2 l2 l).2.1).1]; exact r2, r3⟩
 have marks : Marks m0 β' w' a.defers := by
  obtain ⟨bs, b1', b2', b3'⟩ := hJ.hd.ex
  refine ⟨bs, b1', b2', fun b hb => ⟨(b3' b hb).1, ?_⟩⟩
  have hp := (b3' b hb).2
  refine ⟨Nat.lt_of_lt_of_le hp.lt k4.size, (hframe b hp.lt).trans hp.at_, fun id x hx hg => ?_⟩
  rcases bor hx with h | ⟨h, h2⟩
  ·exact hp.no id x h hg
  ·have := (new2 h2 h).2.2; have := hp.lt; omega
 refine ⟨β', hJ.dc' hpre hL, heap, by rw [put_defers]; exact marks, by rw [put_size]; exact hJ.sz, hJ.put hP ho hpre hnj hL hp hs1 (k1.mono hs2), hJ.qn, fun i h1 h2 h3 h4 => ?_, .inl ⟨rfl, ?_, fun id x hx h0 => ?_, fun i hi id h1 h2 => ?_⟩⟩
 ·rcases (hL i).1 h4 with g | g
  ·exact hJ.hi i h1 h2 h3 g
  ·omega
 ·refine ⟨p2.sub.trans hs1, fun id x hx h0 => ?_, Nat.le_trans p2.size k4.size, k4.os.trans p2.os, k4.tape.trans p2.tape, k4.output.trans p2.output, fun b hb => (hframe b (Nat.lt_of_lt_of_le hb p2.size)).trans (p2.frame b hb)⟩
  rcases bor hx with h | ⟨h, h2⟩
  ·exact p2.blk id x h h0
  ·exact Nat.le_trans p2.size (new2 h2 h).2.2
 ·rcases bor hx with h | ⟨h, h2⟩
  ·exact p3 id x h h0
  ·have := (new2 h2 h).1
   have := T.mono' (m := 0) (m' := j) (Nat.zero_le _) (by omega)
   omega
 ·have hold := p4 i hi id h1 h2
  by_cases hij : i = j
  ·subst hij
   have hb : β id = none := by
    cases hb : β id with
    | none => rfl
    | some x => exact absurd (hold.1 (by rw [hb]; rfl)) hnj
   rw [b2 hb]
   exact ⟨fun _ => (hL i).2 (.inr rfl), fun _ => k4.all id h1 (by rw [hnx]; exact h2)⟩
  ·have hb : (β' id).isSome = true ↔ (β id).isSome = true := by
    cases hb : β id with
    | some x => rw [b1 hb]
    | none =>
     rw [b2 hb]
     cases h3 : β2 id with
     | none => exact Iff.rfl
     | some x =>
      have := new2 h3 hb
      rcases Nat.lt_or_gt_of_ne hij with g | g
      ·have := T.mono' (m := i + 1) (m' := j) g (by omega); omega
      ·have := T.mono' (m := j + 1) (m' := i) g (by omega); omega
   rw [hb, hold, hL]
   exact ⟨.inl, fun h => h.resolve_right hij⟩
end
end Go.AM
namespace Go.AM
section
variable {P : Program} {call : Call'} {ops : Array Oper} {S : Nat → St} {I : Nat → Inf} {sb : Nat → Bool} {k0 m0 : Nat} {β0 β β' : Ren} {w0 w w' : World} {a : Act} {q : Nat} {L L' : Nat → Prop}
theorem J.step {F : Fence} {n : Nat} (hF : Open F) (hN : Named P) (hcall : CallSound P call) (hP : Plan P call ops S I β0 sb k0) (hJ : J P ops S I sb k0 m0 β0 w0 q β a w L) {j : Nat} {o : Oper} (ho : ops[j]? = some o) (hpre : ∀ i, Pr ops i j → L i) (hnj : ¬ L j)
  (hL : ∀ i, L' i ↔ (L i ∨ i = j)) (hr0 : HR β0 (S 0).h w0) (hnew : ∀ id x, β id = some x → Kn β0 (S 0).h.next id) {K : Act → World → Prop} {Q : Exit → Act → World → Prop} (hK : ∀ q' β' a' w', J P ops S I sb k0 m0 β0 w0 q' β' a' w' L' → K a' w') :
  if Region.wanted o (yielded ops a.tmps) then o.wpIn F n P a w K Q else (∀ f, o.about P w a.eval = some f → F.fn f) ∧ K (a.put o.dst undef) w := by
 have T := hP.T
 have hjn : j < ops.size := (Array.getElem?_eq_some_iff.1 ho).1
 have hqn := hJ.qn
 obtain ⟨o', v, h', t1, t2, t3, t4, t5, t6, t7⟩ := T.ran j hjn
 rw [ho] at t1
 cases t1
 have hran := ran_congr t2 (restr_same (S j).e)
 have henv := envW_restr hP hJ ho hpre hnj
 have hwsame : wantedA ops (restr (S j).e (o.looksAt ops)) o = some true → wantedA ops (S j).e o = some true := by
  intro hq
  rw [← hq]
  unfold wantedA
  cases hg : o.guard with
  | none => rfl
  | some gb =>
   obtain ⟨g, b⟩ := gb
   simp only
   cases hd : (ops[g]?).bind (·.dst) with
   | none => rfl
   | some t => simp only [restr_same (S j).e t (mem_looks_guard hg hd)]
 cases hst : sb j with
 | true =>
  obtain ⟨s1, s2⟩ := t7 (hP.stl j hjn hst)
  subst s1
  have hread : wantedA ops (restr (S j).e (o.looksAt ops)) o = some true → floats o.op = true ∧
    ∀ id, readId (restr (S j).e (o.looksAt ops)) o.op = some id → ({ (S q).h with wr := BIG } : AH).fam id = ({ (S j).h with wr := BIG } : AH).fam id ∧ ({ (S q).h with wr := BIG } : AH).t.get id = ({ (S j).h with wr := BIG } : AH).t.get id := by
   intro hw1
   obtain ⟨f1, f2⟩ := s2 (hwsame hw1)
   refine ⟨f1, fun id hid => ?_⟩
   have hrd : readId (restr (S j).e (o.looksAt ops)) o.op = readId (S j).e o.op := readId_congr fun x hx => by
    cases x with
    | tmp t => exact restr_same (S j).e t (mem_looks_op hx)
    | _ => rfl
   rw [hrd] at hid
   obtain ⟨r1, r2⟩ := f2 id hid
   have hlt : id < (S j).h.next := by omega
   have hlow := hP.low j hjn hst _ r1
   rcases Nat.le_total j q with g | g
   ·have := T.keep' g hqn.2 hlt fun i h1 h2 => by
     rcases hlow i (by omega) with k | k | ⟨k1, k2, k3, k4⟩
     ·exact .inl k
     ·exact .inr k
     ·left
      cases hs : sb i with
      | true => exact k4 hs
      | false =>
       rcases hJ.ph with ⟨p1, _⟩ | ⟨_, p2⟩
       ·exact hP.early i (by omega)
       ·exact absurd (hJ.dc j i (k3 (by omega)) (p2 i h2 hs)) hnj
    exact ⟨this.2, this.1⟩
   ·-- the operation is ahead of those that stand before it in the text
    have hid2 : id < (S q).h.next := by
     -- what it reads is there already
     have : ∃ x, β id = some x := by
      rw [← hrd] at hid
      unfold readId at hid
      split at hid
      ·split at hid
       ·rename_i ad hev
        have := ev_sound henv hev
        cases hid
        revert this
        generalize Act.eval a _ = u
        intro this
        cases this with
        | free _ hf => simp [free0] at hf
        | ptr hb _ => exact ⟨_, hb⟩
       ·cases hid
      ·split at hid
       ·rename_i ad _ _ hev
        have := ev_sound henv hev
        cases hid
        revert this
        generalize Act.eval a _ = u
        intro this
        cases this with
        | free _ hf => simp [free0] at hf
        | slice hb _ _ _ => exact ⟨_, hb⟩
       ·cases hid
      ·split at hid
       ·rename_i r hev
        have := ev_sound henv hev
        cases hid
        revert this
        generalize Act.eval a _ = u
        intro this
        cases this with
        | free _ hf => simp [free0] at hf
        | map hb => exact ⟨_, hb⟩
       ·cases hid
      ·cases hid
     obtain ⟨x, hx⟩ := this
     exact (hJ.hr.dom id x hx).1
    have hrr : rootOf (S q).h id = rootOf (S j).h id := by
     have := (T.roots (m := q) hid2 (j - q) (by omega)).1
     rwa [show q + (j - q) = j by omega, eq_comm] at this
    have := T.keep' g (by omega) hid2 fun i h1 h2 => by
     rcases hlow i (by omega) with k | k | ⟨k1, k2, k3, k4⟩
     ·exact .inl k
     ·right; rw [hrr]; exact k
     ·left
      cases hs : sb i with
      | true => exact k4 hs
      | false => exact absurd (hpre i (k2 h2)) (hJ.hi i h1 (by omega) hs)
    exact ⟨this.2.symm, this.1.symm⟩
  have hran' := ran_still hran hread
  refine ran_sound hF hN hcall (hJ.hr.wr_any BIG) ((T.wf q hqn.2).wr_any BIG) henv hran' fun v' w' hd => ?_
  obtain ⟨β', hJ'⟩ := hJ.stepLook hP ho hpre hnj hL hst t3 hd hr0
  exact hK _ _ _ _ hJ'
 | false =>
  by_cases hj : j < k0
  ·have hqk : q = k0 := by
    rcases hJ.ph with ⟨p1, _⟩ | ⟨_, p2⟩
    ·exact p1
    ·exact absurd (p2 j (by omega) hst) hnj
   subst hqk
   have hjs : (S j).h.next ≤ (S q).h.next := T.mono' (Nat.le_of_lt hj) hqn.2
   have keep : ∀ {id}, id < (S j).h.next → (S q).h.t.get id = (S j).h.t.get id ∧ (S q).h.fam id = (S j).h.fam id := fun hid => T.keep' (Nat.le_of_lt hj) hqn.2 hid fun i _ h2 => .inl (hP.early i h2)
   have hr1 : HR (res β (S j).h.next) (S j).h w := by
    refine hJ.hr.move (fun id x hx => ?_) (fun id x f hx hf p v v' q1 q2 q3 q4 => ?_) (fun id x r hx hm t v v' q1 q2 => ?_) (fun id x es ck hx hm i en v' q1 q2 => ?_)
    ·obtain ⟨k1, k2⟩ := res_some hx
     exact ⟨k2, k1, (keep k1).2.symm, (keep k1).1.symm⟩
    ·obtain ⟨k1, k2⟩ := res_some hx
     exact q4.res (T.clr j (by omega) id f k1 (hnew id x k2) hf p v q1 q2 q3)
    ·obtain ⟨k1, k2⟩ := res_some hx
     exact q2.res (T.cll j (by omega) id r k1 (hnew id x k2) hm t v q1)
    ·obtain ⟨k1, k2⟩ := res_some hx
     exact q2.res (T.clm j (by omega) id es ck k1 (hnew id x k2) hm i en q1)
   have henv1 : EnvW (res β (S j).h.next) (restr (S j).e (o.looksAt ops)) a.tmps := by
    intro t u hu
    obtain ⟨u', k1, k2⟩ := henv t u hu
    refine ⟨u', k1, k2.res ?_⟩
    rw [get_restr] at hu
    split at hu
    ·exact T.cl j (by omega) t u hu
    ·cases hu
   refine ran_sound hF hN hcall (hr1.wr_any BIG) ((T.wf j (by omega)).wr_any BIG) henv1 hran fun v' w' hd => ?_
   obtain ⟨β', hJ'⟩ := hJ.stepEarly hP ho hpre hnj hL hj hst t3 t4 (t6 (hP.early j hj)) hd
   exact hK _ _ _ _ hJ'
  ·have hall : ∀ i, i < j → sb i = false → L i := fun i h1 h2 => hpre i (hP.tail j hjn (by omega) hst i h1 h2)
   have hqj : q ≤ j := by
    rcases Nat.lt_or_ge j q with g | g
    ·exfalso
     rcases hJ.ph with ⟨p1, _⟩ | ⟨_, p2⟩
     ·omega
     ·exact hnj (p2 j g hst)
    ·exact g
   have hsame : (S q).h = (S j).h := by
    have := T.heaps (m := q) (j - q) (by omega) fun i h1 h2 => hP.stl i (by omega) (not_stable_of fun hs => hJ.hi i h1 (by omega) hs (hall i (by omega) hs))
    rwa [show q + (j - q) = j by omega, eq_comm] at this
   have hr1 : HR β (S j).h w := by rw [← hsame]; exact hJ.hr
   refine ran_sound hF hN hcall (hr1.wr_any BIG) ((T.wf j (by omega)).wr_any BIG) henv hran fun v' w' hd => ?_
   obtain ⟨β', hJ'⟩ := hJ.stepLate hP ho hpre hnj hL hqj hall t3 t4 hsame hd hr0
   exact hK _ _ _ _ hJ'
theorem J.knows (hP : Plan P call ops S I β0 sb k0) (hJ : J P ops S I sb k0 m0 β0 w0 q β a w L) : ∀ id x, β id = some x → Kn β0 (S 0).h.next id := by
 have _ := hP
 intro id x hx
 cases hb : β0 id with
 | some y => exact .inl (by rw [hb]; rfl)
 | none =>
  right
  rcases hJ.ph with ⟨_, _, p3, _⟩ | ⟨p1, _⟩
  ·exact p3 id x hx hb
  ·exact p1.new id x hx hb
def Lis (listed : Array Bool) (i : Nat) : Prop := listed.getD i false = true
theorem lis_set {listed : Array Bool} {j : Nat} (hj : j < listed.size) (i : Nat) : Lis (listed.setIfInBounds j true) i ↔ (Lis listed i ∨ i = j) := by
 unfold Lis
 by_cases h : i = j
 ·subst h; simp [hj]
 ·rw [getD_set_ne false (Ne.symm h)]; simp [h]
theorem ready_none (hok : drawOk ops = true) {listed : Array Bool} (hs : listed.size = ops.size) (hr : Region.ready .any ops listed = []) : ∀ i, i < ops.size → Lis listed i := by
 intro i
 induction i using Nat.strongRecOn with
 | _ i ih =>
  intro hi
  cases hl : listed.getD i false with
  | true => exact hl
  | false =>
   exfalso
   have : i ∈ Region.ready .any ops listed := mem_ready.2 ⟨?_, ops[i], Array.getElem?_eq_getElem hi, fun e he hb => ?_⟩
   ·rw [hr] at this; cases this
   ·have h1 : i < listed.size := by omega
    simp only [Array.getD, h1, dif_pos] at hl ⊢
    exact hl
   ·have := (drawOk_spec hok (Array.getElem?_eq_getElem hi)).1 e he hb
    exact ih e.on this (by omega)
theorem count_set {l : List Bool} {i : Nat} (h : l[i]? = some false) : (l.set i true).count false + 1 = l.count false := by
 induction l generalizing i with
 | nil => cases h
 | cons b l ih =>
  cases i with
  | zero => simp at h; subst h; simp
  | succ i =>
   have := ih (i := i) (by simpa using h)
   cases b <;> simp <;> omega
theorem any_sound {F : Fence} {n : Nat} (hF : Open F) (hN : Named P) (hcall : CallSound P call) (hP : Plan P call ops S I β0 sb k0) (hr0 : HR β0 (S 0).h w0) {Q : Exit → Act → World → Prop}
  (hQ : ∀ a' w' β', Rst m0 β' (S ops.size) a' w' → Evo β0 (S 0).h w0 β' (S ops.size).h w' → Q .normal a' w') :
  ∀ (fuel : Nat) (listed : Array Bool) (q : Nat) (β : Ren) (a : Act) (w : World), listed.size = ops.size → listed.toList.count false = fuel → J P ops S I sb k0 m0 β0 w0 q β a w (Lis listed) → wpAnyIn F n P .any ops Q fuel listed a w
 | 0, listed, q, β, a, w, hs, hc, hJ => by
  have hall : ∀ i, i < ops.size → Lis listed i := fun i hi => by
   have h1 : i < listed.size := by omega
   cases hl : listed.getD i false with
   | true => exact hl
   | false =>
    exfalso
    have h2 : false ∈ listed.toList := by
     simp only [Array.getD, h1, dif_pos] at hl
     rw [← hl]
     simp
    have := List.count_pos_iff.2 h2
    omega
  have hf := hJ.fin hP hall
  refine ⟨?_, hQ _ _ _ hf.1 hf.2⟩
  cases hr : Region.ready .any ops listed with
  | nil => rfl
  | cons i r =>
   exfalso
   have hm : i ∈ Region.ready .any ops listed := by rw [hr]; exact List.mem_cons_self
   obtain ⟨h0, o, ho, _⟩ := mem_ready.1 hm
   have hi : i < ops.size := (Array.getElem?_eq_some_iff.1 ho).1
   have := hall i hi
   have h1 : i < listed.size := by omega
   unfold Lis at this
   simp only [Array.getD, h1, dif_pos] at this h0
   rw [this] at h0; cases h0
 | fuel + 1, listed, q, β, a, w, hs, hc, hJ => by
  refine ⟨fun hr => ?_, fun j hj => ?_⟩
  ·have hf := hJ.fin hP (ready_none hP.ok hs hr)
   exact hQ _ _ _ hf.1 hf.2
  ·obtain ⟨h0, o, ho, hpre⟩ := mem_ready.1 hj
   have hjn : j < ops.size := (Array.getElem?_eq_some_iff.1 ho).1
   have h1 : j < listed.size := by omega
   have hnj : ¬ Lis listed j := by
    unfold Lis
    simp only [Array.getD, h1, dif_pos] at h0 ⊢
    rw [h0]; exact fun h => by cases h
   have hpr : ∀ i, Pr ops i j → Lis listed i := by
    intro i hi
    -- the last edge of the chain
    have : ∀ {i k}, Pr ops i k → k = j → Lis listed i := by
     intro i k hik
     induction hik with
     | edge g1 g2 g3 => intro hkj; subst hkj; rw [ho] at g1; cases g1; exact hpre _ g2 g3
     | trans g1 _ _ ih2 => intro hkj; exact hJ.dc _ _ g1 (ih2 hkj)
    exact this hi rfl
   have hcount : (listed.setIfInBounds j true).toList.count false = fuel := by
    have : listed.toList[j]? = some false := by
     simp only [Array.getD, h1, dif_pos] at h0
     rw [Array.getElem?_toList, Array.getElem?_eq_getElem h1]
     exact congrArg some h0
    have := count_set this
    rw [Array.toList_setIfInBounds]
    omega
   have := hJ.step (F := F) (n := n) (L' := Lis (listed.setIfInBounds j true)) (Q := Q) (K := wpAnyIn F n P .any ops Q fuel (listed.setIfInBounds j true)) hF hN hcall hP ho hpr hnj (lis_set h1) hr0 (hJ.knows hP) fun q' β' a' w' hJ' =>
    any_sound hF hN hcall hP hr0 hQ fuel _ q' β' a' w' (by simpa using hs) hcount hJ'
   unfold wpOpIn
   rw [ho]
   simp only
   split
   ·rename_i hw; rw [if_pos hw] at this; exact this
   ·rename_i hw; rw [if_neg hw] at this; exact this
theorem runDraw_sound {F : Fence} {n : Nat} (hF : Open F) (hN : Named P) (hmix : P.follows .mixedOrders = true) (hcall : CallSound P call) {st st' : St} (hs : runDraw P call ops st = some st') (hR : Rst m0 β st a w) {id : Nat} {Q : Exit → Act → World → Prop}
  (hQ : ∀ a' w' β', Rst m0 β' st' a' w' → Evo β st.h w β' st'.h w' → Q .normal a' w') : (Code.region id ops true).wpIn F n P Q a w := by
 unfold runDraw at hs
 split at hs
 case isFalse => cases hs
 rename_i hok
 split at hs
 case h_2 => cases hs
 rename_i s infs hgo
 split at hs
 case isFalse => cases hs
 rename_i hc
 cases hs
 simp only [Bool.and_eq_true, decide_eq_true_eq] at hc
 obtain ⟨⟨c1, c2⟩, c3⟩ := hc
 obtain ⟨S, I, s0, s1, s2, s3⟩ := drawGo_tra _ hgo
 subst s0
 simp only [Array.length_toList] at s1 s2 s3
 subst s1
 have hs' : ∀ k, k < ops.size → ∃ o, ops[k]? = some o ∧ draw1 P call ops o (S k) = some (S (k + 1), I k) := fun k hk => by
  obtain ⟨_, o, h1, h2⟩ := s3 k hk
  exact ⟨o, by rw [← Array.getElem?_toList]; exact h1, h2⟩
 have hR0 : Rst m0 β (S 0) a { w with drawn := w.drawn + 1 } := ⟨hR.hr.heap rfl, hR.hw, hR.he, hR.sz, ⟨let ⟨bs, b1, b2, b3⟩ := hR.hd.ex; ⟨bs, b1, b2, fun b hb => ⟨(b3 b hb).1, ⟨(b3 b hb).2.lt, (b3 b hb).2.at_, (b3 b hb).2.no⟩⟩⟩⟩⟩
 have T := tra_of hN hcall c3 c2 hs' hR0
 obtain ⟨sb, k0, hP⟩ := plan_of T hok s2 (fun k hk => (s3 k hk).1) c1
 refine wpIn_region_any hmix ?_
 refine any_sound hF hN hcall hP hR0.hr (fun a' w' β' h1 h2 => hQ a' w' β' h1 ⟨h2.sub, h2.new, h2.all, h2.blk, h2.size, h2.os, h2.tape, h2.output, h2.frame, h2.next, h2.wr, h2.root, h2.ro, h2.objs⟩) ops.size _ k0 β a _ (by simp) (by simp) (J.init hP hR0 fun i => ?_)
 unfold Lis
 simp only [Array.getD, Array.size_replicate]
 split <;> simp
end
end Go.AM
namespace Go.AM
def Ex.to : Ex → Exit
 | .normal => .normal
 | .exit id => .exit id
 | .ret => .ret
section
variable {P : Program} {β β' : Ren} {h h' : AH} {w w' : World} {a : Act}
theorem HR.kept (hr : HR β h w) (hs : w.heap.size ≤ w'.heap.size) (hk : ∀ id x, β id = some x → w'.heap[x.g]? = w.heap[x.g]?) : HR β h w' where
 dom := fun id x hx => ⟨(hr.dom id x hx).1, Nat.lt_of_lt_of_le (hr.dom id x hx).2 hs⟩
 row := fun id x f hx hf => (hr.row id x f hx hf).mono (.refl _) (hk id x hx)
 map := fun id x es ck hx hm => let ⟨es', a, b⟩ := hr.map id x es ck hx hm; ⟨es', (hk id x hx).trans a, b⟩
 loop := fun id x r hx hm => let ⟨r', a, b⟩ := hr.loop id x r hx hm; ⟨r', (hk id x hx).trans a, b⟩
 disj := hr.disj
theorem alloc_kept (hr : HR β h w) (o : Obj) : HR β h (w.alloc o) ∧ Evo β h w β h (w.alloc o) := by
 have hs : w.heap.size ≤ (w.alloc o).heap.size := by simp
 refine ⟨hr.kept hs fun id x hx => heap_old (hr.dom id x hx).2, ?_⟩
 exact {
  sub := .refl _
  new := fun _ _ a b => by rw [a] at b; cases b
  all := fun id a b => absurd b (Nat.not_lt.2 a)
  blk := fun _ _ a b => by rw [a] at b; cases b
  size := hs
  os := rfl
  tape := rfl
  output := rfl
  frame := fun b hb => .inl (heap_old hb)
  next := Nat.le_refl _
  wr := Nat.le_refl _
  root := fun _ _ => rfl
  ro := fun _ _ => rfl
  objs := fun _ _ _ => rfl }
theorem put_kept {β0 : Ren} {h0 : AH} {w0 : World} (hr : HR β h w) (hE : Evo β0 h0 w0 β h w) {b : Nat} (hb : w0.heap.size ≤ b) (hn : ∀ id x, β id = some x → x.g ≠ b) (o : Obj) :
  HR β h (w.putObj b o) ∧ Evo β0 h0 w0 β h (w.putObj b o) := by
 refine ⟨hr.kept (by simp) fun id x hx => World.putObj_heap_other (hn id x hx), ?_⟩
 exact { hE with
  size := by simpa using hE.size
  os := hE.os
  tape := hE.tape
  output := hE.output
  frame := fun c hc => by
   rw [World.putObj_heap_other (show c ≠ b by omega)]
   exact hE.frame c hc }
theorem newLoop_sound (hr : HR β h w) (hw : Wf h) (r : ALoop) (r' : Loop) (hl : LoopR β r r') :
  HR (upd β h.next ⟨w.heap.size, 0, 0, 0⟩) { h with t := h.t.set h.next (.loop r), next := h.next + 1 } (w.alloc (.loop r')) ∧
  Wf { h with t := h.t.set h.next (.loop r), next := h.next + 1 } ∧ Evo β h w (upd β h.next ⟨w.heap.size, 0, 0, 0⟩) { h with t := h.t.set h.next (.loop r), next := h.next + 1 } (w.alloc (.loop r')) := by
 have k := hr_new hr hw (.loop r) (.loop r') 0 (fun d c l ro n0 q => by cases q) (fun es ck q => by cases q) (fun r q => by cases q; exact ⟨_, rfl, hl⟩) (fun r lo n q => by cases q)
 refine ⟨k.1, ?_, k.2⟩
 have hf : ∀ {id f}, ({ h with t := h.t.set h.next (.loop r), next := h.next + 1 } : AH).fam id = some f → id < h.next ∧ h.fam id = some f := by
  intro id f hq
  by_cases h1 : id = h.next
  ·subst h1; simp [AH.fam, Tr.get_set_eq] at hq
  ·have hl : id < h.next := by
    unfold AH.fam at hq
    simp only [Tr.get_set_ne _ _ h1] at hq
    cases hg : h.t.get id with
    | none => rw [hg] at hq; cases hq
    | some o => exact hw.lt _ _ hg
   exact ⟨hl, by rw [← hq]; exact (fam_set_next hw hl).symm⟩
 constructor
 ·intro id o ho
  by_cases h1 : id = h.next
  ·subst h1; exact Nat.lt_succ_self _
  ·exact Nat.lt_succ_of_lt (hw.lt id o (by simpa [Tr.get_set_ne _ _ h1] using ho))
 ·intro id f q; exact hw.lon _ _ (hf q).2
 ·intro id f q; exact hw.curn _ _ (hf q).2
 ·intro id f q; exact hw.stale _ _ (hf q).2
 ·intro id f q; exact Nat.lt_succ_of_lt (hw.cur _ _ (hf q).2)
 ·intro id r lo n ho
  by_cases h1 : id = h.next
  ·subst h1; simp [Tr.get_set_eq] at ho
  ·obtain ⟨d, c, l, ro, n0, hr, hc⟩ := hw.ali id r lo n (by simpa [Tr.get_set_ne _ _ h1] using ho)
   have : r < h.next := hw.lt _ _ hr
   exact ⟨d, c, l, ro, n0, by simpa [Tr.get_set_ne _ _ (show r ≠ h.next by omega)] using hr, hc⟩
theorem setLoop_sound (hr : HR β h w) (hw : Wf h) {l : Nat} {x : Bx} {r r2 : ALoop} {r2' : Loop} (hx : β l = some x) (hm : h.t.get l = some (.loop r)) (hl : LoopR β r2 r2') :
  HR β { h with t := h.t.set l (.loop r2), wr := min h.wr l } (w.putObj x.g (.loop r2')) ∧ Wf { h with t := h.t.set l (.loop r2), wr := min h.wr l } ∧
  Evo β h w β { h with t := h.t.set l (.loop r2), wr := min h.wr l } (w.putObj x.g (.loop r2')) :=
 hr_setObj hr hw hx hm rfl rfl (fun _ _ e => by cases e) (fun r e => by cases e; exact ⟨_, World.putObj_heap_same (hr.dom _ _ hx).2, hl⟩)
  (fun b hb => World.putObj_heap_other hb) (by simp) rfl rfl rfl
theorem setPs_sound {sz : Nat} : ∀ (ps : List Tmp) (vs vs' : List Value) (e e' : Tr Value) (tmps : Array Value), setPs sz ps vs e = some e' → VRl β vs vs' → EnvW β e tmps → tmps.size = sz →
  vs.length = ps.length ∧ EnvW β e' ((ps.zip vs').foldl (fun tmps (p : Tmp × Value) => tmps.setIfInBounds p.1 p.2) tmps) ∧ ((ps.zip vs').foldl (fun tmps (p : Tmp × Value) => tmps.setIfInBounds p.1 p.2) tmps).size = sz
 | [], [], vs', e, e', tmps, hs, hv, he, hz => by
  cases hs
  exact ⟨rfl, by simpa using he, by simpa using hz⟩
 | t :: ps, v :: vs, [], e, e', tmps, hs, hv, he, hz => by have := hv.1; simp at this
 | t :: ps, v :: vs, v' :: vs', e, e', tmps, hs, hv, he, hz => by
  simp only [setPs] at hs
  split at hs
  ·rename_i ht
   have h0 : VR β v v' := hv.2 0 v v' rfl rfl
   have h1 : VRl β vs vs' := ⟨by have := hv.1; simpa using this, fun i u u' a b => hv.2 (i + 1) u u' (by simpa using a) (by simpa using b)⟩
   have := setPs_sound ps vs vs' _ e' (tmps.setIfInBounds t v') hs h1 (he.set (show t < tmps.size by rw [hz]; exact ht) h0) (by simpa using hz)
   refine ⟨by simp [this.1], ?_, ?_⟩
   ·simpa using this.2.1
   ·simpa using this.2.2
  ·cases hs
 | [], v :: vs, _, e, e', tmps, hs, _, _, _ => by cases hs
 | t :: ps, [], _, e, e', tmps, hs, _, _, _ => by cases hs
def resM (tmps : Array Value) : ResultVar → Sem Value
 | .tmp t => pure (tmps.getD t undef)
 | .cell b t => do loadVar t (← asAddr (tmps.getD b undef))
theorem resA_sound {st : St} {tmps : Array Value} (hr : HR β st.h w) (hw : Wf st.h) (he : EnvW β st.e tmps) : ∀ (l : List ResultVar) {vs : List Value}, resA P st l = some vs →
  ∃ vs', (l.mapM (resM tmps)).run P w = .ok vs' w ∧ VRl β vs vs'
 | [], vs, h => by
  simp only [resA, Option.some.injEq] at h
  subst h
  exact ⟨[], rfl, .nil⟩
 | .tmp t :: r, vs, h => by
  simp only [resA] at h
  split at h
  case h_2 => cases h
  rename_i v us hv hu
  cases h
  obtain ⟨us', k1, k2⟩ := resA_sound hr hw he r hu
  obtain ⟨v', m1, m2⟩ := he _ _ hv
  refine ⟨v' :: us', ?_, .cons m2 k2⟩
  have hg : tmps.getD t undef = v' := by simp [m1]
  rw [List.mapM_cons]
  simp only [Sem.run_bind, Sem.run_pure, Result.andThen_ok, k1, resM, hg]
 | .cell b t :: r, vs, h => by
  simp only [resA] at h
  split at h
  case h_2 => cases h
  rename_i p us hp hu
  obtain ⟨v, h1, h2⟩ := map_inv' h
  cases h2
  obtain ⟨us', k1, k2⟩ := resA_sound hr hw he r hu
  obtain ⟨p', m1, m2⟩ := he _ _ hp
  obtain ⟨v', a', q1, q2, q3⟩ := loadV_sound hr hw h1 m2
  refine ⟨v' :: us', ?_, .cons q3 k2⟩
  have hg : tmps.getD b undef = .pointer (some a') := by rw [← q1]; simp [m1]
  rw [List.mapM_cons]
  simp only [Sem.run_bind, Sem.run_pure, Result.andThen_ok, k1, resM, hg, asAddr, q2]
theorem one_sound {vs vs' : List Value} (hv : VRl β vs vs') : VR β (one vs) (if h : (⟨vs'⟩ : Array Value).size = 1 then (⟨vs'⟩ : Array Value)[0] else .tuple ⟨vs'⟩) := by
 match vs, vs', hv.1 with
 | [], [], _ => exact .tuple rfl fun i v v' h => by simp at h
 | [v], [v'], _ => exact hv.2 0 v v' rfl rfl
 | u :: v :: r, u' :: v' :: r', _ =>
  have : ¬ (⟨u' :: v' :: r'⟩ : Array Value).size = 1 := by simp
  rw [dif_neg this]
  exact hv.toTup
theorem results_sound {fn : Func} {st : St} {tmps : Array Value} (hr : HR β st.h w) (hw : Wf st.h) (he : EnvW β st.e tmps) {vs : List Value} (h : resA P st fn.results.toList = some vs) : ∃ v', (results fn tmps).run P w = .ok v' w ∧ VR β (one vs) v' := by
 obtain ⟨vs', k1, k2⟩ := resA_sound hr hw he _ h
 refine ⟨_, ?_, one_sound k2⟩
 have e : results fn tmps = (fn.results.mapM (resM tmps) >>= fun vs => pure (if h : vs.size = 1 then vs[0] else .tuple vs)) := rfl
 rw [e, Array.mapM_eq_mapM_toList]
 simp only [Sem.run_bind, map_eq_pure_bind, k1, Result.andThen_ok, Sem.run_pure]
theorem init_sound {args args' : List Value} (hv : VRl β args args') (m : Nat) :
  EnvW β (Tr.ofList args 0 .leaf) ((⟨args'⟩ : Array Value) ++ Array.replicate (m - (⟨args'⟩ : Array Value).size) undef) ∧ ((⟨args'⟩ : Array Value) ++ Array.replicate (m - (⟨args'⟩ : Array Value).size) undef).size = max args.length m := by
 refine ⟨fun t v ht => ?_, by simp [hv.1]; omega⟩
 rw [Tr.get_ofList] at ht
 split at ht
 ·rename_i hq
  have h1 : t < args'.length := by rw [← hv.1]; omega
  refine ⟨args'[t], ?_, hv.2 t v _ (by simpa using ht) (List.getElem?_eq_getElem h1)⟩
  rw [Array.getElem?_append_left (by simpa using h1)]
  simp [h1]
 ·cases ht
theorem leaves_sound {F : Fence} {n : Nat} {fn : Func} {tmps : Array Value} {R : Ending → World → Prop} {β0 : Ren} {h0 : AH} {w0 : World} :
  ∀ (bs : List Nat) (w : World), bs.Nodup → (∀ b ∈ bs, w0.heap.size ≤ b ∧ Priv β w b) → HR β h w → Evo β0 h0 w0 β h w →
   (∀ w', HR β h w' → Evo β0 h0 w0 β h w' → ∃ v, (results fn tmps).run P w' = .ok v w' ∧ R (.returned v) w') → LeavesInM F n P fn tmps R (marksOf bs) .returning w
 | [], w, _, _, hr, hE, hR => hR w hr hE
 | b :: bs, w, hn, hp, hr, hE, hR => by
  obtain ⟨hb, hq⟩ := hp b (List.mem_cons_self)
  obtain ⟨k1, k2⟩ := put_kept hr hE hb hq.no (.deferred none)
  refine ⟨by simp, .inl ⟨b, w.putObj b (.deferred none), rfl, run_takeDeferred hq.at_, ?_⟩⟩
  refine leaves_sound bs _ (List.nodup_cons.1 hn).2 (fun c hc => ?_) k1 k2 hR
  obtain ⟨m1, m2⟩ := hp c (List.mem_cons_of_mem _ hc)
  have hne : c ≠ b := fun e => (List.nodup_cons.1 hn).1 (e ▸ hc)
  exact ⟨m1, by simpa using m2.lt, by rw [World.putObj_heap_other hne]; exact m2.at_, m2.no⟩
end
end Go.AM
namespace Go.AM
section
variable {P : Program} {β β' : Ren} {h h' : AH} {w w' : World} {a : Act}
def ExecSound (P : Program) (call : Call') (rd : Bool) (n : Nat) : Prop :=
 ∀ (F : Fence) (m m0 : Nat) (c : Code) (st : St) (ex : Ex) (st' : St) (β : Ren) (a : Act) (w : World) (Q : Exit → Act → World → Prop), Open F → (rd = false → F.round = none) → m0 ≤ w.heap.size →
  exec P call rd n c st = some (ex, st') → Rst m0 β st a w →
  (∀ a' w' β', Rst m0 β' st' a' w' → Evo β st.h w β' st'.h w' → Q ex.to a' w') → c.wpIn F m P Q a w
def LoopSound (P : Program) (call : Call') (rd : Bool) (n : Nat) : Prop :=
 ∀ (F : Fence) (m m0 : Nat) (b : Code) (st : St) (ex : Ex) (st' : St) (β : Ren) (a : Act) (w : World) (Q : Exit → Act → World → Prop), Open F → (rd = false → F.round = none) → m0 ≤ w.heap.size →
  exec P call rd n (.loop b) st = some (ex, st') → Rst m0 β st a w →
  (∀ a' w' β', Rst m0 β' st' a' w' → Evo β st.h w β' st'.h w' → Q ex.to a' w') → Code.roundsIn F m P b Q n a w
theorem exec_loop {call : Call'} {rd : Bool} {n : Nat} (hA : ExecSound P call rd n) (hB : LoopSound P call rd n) : LoopSound P call rd (n + 1) := by
 intro F m m0 b st ex st' β a w Q hF hro hm he hR hQ
 rw [roundsIn_succ]
 simp only [exec] at he
 cases h1 : exec P call rd n b st with
 | none => rw [h1] at he; cases he
 | some r =>
  obtain ⟨x, s⟩ := r
  rw [h1] at he
  refine hA F m m0 b st x s β a w _ hF hro hm h1 hR fun a1 w1 β1 hR1 hE1 => ?_
  cases x with
  | normal =>
   exact hB F m m0 b s ex st' β1 a1 w1 Q hF hro (Nat.le_trans hm hE1.size) he hR1 fun a2 w2 β2 hR2 hE2 => hQ a2 w2 β2 hR2 (hE1.trans hR.hr hE2)
  | exit id => cases he; exact hQ a1 w1 β1 hR1 hE1
  | ret => cases he; exact hQ a1 w1 β1 hR1 hE1
theorem range_sound {call : Call'} {n : Nat} {F : Fence} {m m0 : Nat} {g : Operand} {ps : Array Tmp} {assign body : Code} {st : St} {ex : Ex} {st' : St} {Q : Exit → Act → World → Prop} (hF : Open F) (hro : F.round = none) (hm : m0 ≤ w.heap.size)
  (hN : Named P) (hcall : CallSound P call) (hA : ExecSound P call false n) (he : exec P call false (n + 1) (.rangeFunc g ps assign body) st = some (ex, st')) (hR : Rst m0 β st a w)
  (hQ : ∀ a' w' β', Rst m0 β' st' a' w' → Evo β st.h w β' st'.h w' → Q ex.to a' w') : (Code.rangeFunc g ps assign body).wpIn F m P Q a w := by
 simp only [exec, Bool.false_eq_true, if_false] at he
 split at he
 case h_2 => cases he
 rename_i f first cap hg
 split at he
 case h_2 => cases he
 rename_i v2 h2 hc
 split at he
 case h_2 => cases he
 rename_i r hl
 have hfn := ev_sound hR.he hg
 generalize heq : a.eval g = fv at hfn
 cases hfn with
 | free _ hf => simp [free0] at hf
 | func m1 m2 m3 m4 =>
 rename_i first' cap'
 obtain ⟨fn0, q1, q2⟩ := hcall.has _ _ _ _ hc
 refine wpIn_rangeFunc fun fn hfn => ?_
 -- the two blocks
 obtain ⟨a1, a2⟩ := alloc_kept hR.hr (.deferred (some []))
 have hsz : (w.alloc (.deferred (some []))).heap.size = w.heap.size + 1 := by simp
 obtain ⟨b1, b2, b3⟩ := newLoop_sound a1 hR.hw ⟨.ready, none, st.e, st.sz, ps, assign, body⟩ { state := .ready, pending := none, fn, tmps := a.tmps, params := ps, assign, body, defers := w.heap.size }
  ⟨rfl, rfl, hR.he, hR.sz, rfl, rfl, rfl⟩
 have hup : upd β st.h.next ⟨(w.alloc (.deferred (some []))).heap.size, 0, 0, 0⟩ st.h.next = some ⟨w.heap.size + 1, 0, 0, 0⟩ := by rw [upd_same, hsz]
 have hargs : VRl (upd β st.h.next ⟨(w.alloc (.deferred (some []))).heap.size, 0, 0, 0⟩) (first.toList ++ [.func (.yield st.h.next) #[] #[]] ++ cap.toList) (first'.toList ++ [.func (.yield (w.heap.size + 1)) #[] #[]] ++ cap'.toList) := by
  have k1 : VRl β first.toList first'.toList := ⟨by simpa using m1, fun i u u' x y => m2 i u u' (by simpa using x) (by simpa using y)⟩
  have k2 : VRl β cap.toList cap'.toList := ⟨by simpa using m3, fun i u u' x y => m4 i u u' (by simpa using x) (by simpa using y)⟩
  exact ((k1.mono b3.sub).append (.cons (.yield hup) .nil)).append (k2.mono b3.sub)
 have hmeet := hcall.meets _ _ _ _ _ hc F (m - 1) _ _ _ hF b1 b2 hargs
 simp only at hmeet
 refine ⟨w.heap.size + 1, [{ target := .collected w.heap.size, args := #[] }], ((w.alloc (.deferred (some []))).alloc (.loop { state := .ready, pending := none, fn, tmps := a.tmps, params := ps, assign, body, defers := w.heap.size })), { target := .fn (.func f) cap', args := first' ++ #[.func (.yield (w.heap.size + 1)) #[] #[]] }, ((w.alloc (.deferred (some []))).alloc (.loop { state := .ready, pending := none, fn, tmps := a.tmps, params := ps, assign, body, defers := w.heap.size })), f, (first' ++ #[.func (.yield (w.heap.size + 1)) #[] #[]] ++ cap'), ((w.alloc (.deferred (some []))).alloc (.loop { state := .ready, pending := none, fn, tmps := a.tmps, params := ps, assign, body, defers := w.heap.size })), ?_, ?_, fun f' _ => hF.fn f', ?_, hF.deep, ?_⟩
 ·rw [hro]; exact run_enterLoop_outer fn a.tmps ps assign body
 ·have hce : a.eval (.const (.func (.yield (w.heap.size + 1)) #[] #[])) = .func (.yield (w.heap.size + 1)) #[] #[] := rfl
  simp [resolve, heq, Deferred.ofValue, hce]
 ·exact callFunc_run hN q1 q2
 ·have e2 : (⟨first'.toList ++ [.func (.yield (w.heap.size + 1)) #[] #[]] ++ cap'.toList⟩ : Array Value) = first' ++ #[.func (.yield (w.heap.size + 1)) #[] #[]] ++ cap' := Array.ext' (by simp)
  rw [e2] at hmeet
  refine hmeet.mono fun en w3 hen => ?_
  obtain ⟨v', β2, rfl, p1, p2, p3, p4⟩ := hen
  have hx2 := p4.sub _ _ hup
  obtain ⟨r', s1, s2⟩ := p2.loop _ _ _ hx2 hl
  have hE12 := (a2.trans hR.hr b3).trans hR.hr p4
  split at he
  ·cases he
  ·rename_i hnb
   have hnb' : r'.state ≠ .busy := by rw [s2.state]; exact hnb
   obtain ⟨t1, t2, t3⟩ := setLoop_sound p2 p3 hx2 hl (r2 := { r with state := .exhausted }) (r2' := { r' with state := .exhausted }) ⟨rfl, s2.pending, s2.env, s2.sz, s2.params, s2.assign, s2.body⟩
   have hEall := hE12.trans hR.hr t3
   have hmk : Marks m0 β2 (w3.putObj (w.heap.size + 1) (.loop { r' with state := .exhausted })) ([{ target := .collected w.heap.size, args := #[] }] ++ a.defers) := by
    obtain ⟨bs, c1, c2, c3⟩ := (hR.hd.evo hEall).ex
    obtain ⟨bs0, d1, d2, d3⟩ := hR.hd.ex
    have hbs : bs = bs0 := by
     have := c1.symm.trans d1
     have hinj : ∀ (l l' : List Nat), marksOf l = marksOf l' → l = l' := by
      intro l
      induction l with
      | nil => intro l' hq; cases l' with
       | nil => rfl
       | cons => cases hq
      | cons u l ih => intro l' hq; cases l' with
       | nil => cases hq
       | cons u' l' =>
        simp only [marksOf, List.map_cons, List.cons.injEq, Deferred.mk.injEq, and_true, Target.collected.injEq] at hq
        rw [hq.1, ih l' hq.2]
     exact hinj _ _ this
    subst hbs
    refine ⟨w.heap.size :: bs, by rw [c1]; rfl, List.nodup_cons.2 ⟨fun hin => ?_, c2⟩, fun b hb => ?_⟩
    ·have := (d3 _ hin).2.lt; omega
    ·rcases List.mem_cons.1 hb with rfl | hb
     ·refine ⟨hm, ?_⟩
      have pv : Priv (upd β st.h.next ⟨(w.alloc (.deferred (some []))).heap.size, 0, 0, 0⟩) ((w.alloc (.deferred (some []))).alloc (.loop { state := .ready, pending := none, fn, tmps := a.tmps, params := ps, assign, body, defers := w.heap.size })) w.heap.size := by
       refine ⟨by simp; omega, ?_, fun id x hx hg => ?_⟩
       ·rw [heap_old (by simp), heap_new]
       ·by_cases hid : id = st.h.next
        ·subst hid; rw [hup] at hx; cases hx; simp at hg
        ·rw [upd_ne _ _ hid] at hx
         have := (hR.hr.dom _ _ hx).2; omega
      exact (pv.evo p4).evo t3
     ·exact c3 b hb
   have hR' : Rst m0 β2 ⟨st.e, st.sz, endLoopA h2 st.h.next r⟩ { a with defers := [{ target := .collected w.heap.size, args := #[] }] ++ a.defers } (w3.putObj (w.heap.size + 1) (.loop { r' with state := .exhausted })) :=
    ⟨t1, t2, hR.he.mono hEall.sub, hR.sz, hmk⟩
   split at he
   ·rename_i hp
    cases he
    have hp' : r'.pending = none := s2.pending.trans hp
    exact ⟨none, w3.putObj (w.heap.size + 1) (.loop { r' with state := .exhausted }), (run_endLoop s1 hnb').trans (by rw [hp']), hQ _ _ _ hR' hEall⟩
   ·rename_i c hp
    have hp' : r'.pending = some c := s2.pending.trans hp
    refine ⟨some c, w3.putObj (w.heap.size + 1) (.loop { r' with state := .exhausted }), (run_endLoop s1 hnb').trans (by rw [hp']), ?_⟩
    exact hA F m m0 c _ ex st' β2 _ _ Q hF (fun _ => hro) (Nat.le_trans hm hEall.size) he hR' fun a3 w4 β3 hR3 hE3 => hQ a3 w4 β3 hR3 (hEall.trans hR.hr hE3)
theorem exec_sound {call : Call'} (rd : Bool) (hN : Named P) (hmix : P.follows .mixedOrders = true) (hcall : CallSound P call) : ∀ n, ExecSound P call rd n ∧ LoopSound P call rd n
 | 0 => ⟨fun F m m0 c st ex st' β a w Q _ _ _ he => (by cases he), fun F m m0 b st ex st' β a w Q _ _ _ he => (by cases he)⟩
 | n + 1 => by
  obtain ⟨hA, hB⟩ := exec_sound rd hN hmix hcall n
  have hL := exec_loop hA hB
  refine ⟨?_, hL⟩
  intro F m m0 c st ex st' β a w Q hF hro hm he hR hQ
  cases c with
  | skip => simp only [exec] at he; cases he; exact wpIn_skip (hQ a w β hR (.refl _ _ _))
  | label l => simp only [exec] at he; cases he; exact wpIn_label (hQ a w β hR (.refl _ _ _))
  | exit id => simp only [exec] at he; cases he; exact wpIn_exit (hQ a w β hR (.refl _ _ _))
  | ret => simp only [exec] at he; cases he; exact wpIn_ret (hQ a w β hR (.refl _ _ _))
  | region id ops d =>
   simp only [exec] at he
   obtain ⟨s, h1, h2⟩ := map_inv' he
   cases h2
   cases d with
   | true => exact runDraw_sound hF hN hmix hcall (by simpa using h1) hR hQ
   | false => exact wpIn_region_list (runOps_sound hF hN hcall _ (by simpa using h1) hR hQ)
  | seq x y =>
   simp only [exec] at he
   refine wpIn_seq ?_
   cases h1 : exec P call rd n x st with
   | none => rw [h1] at he; cases he
   | some r =>
    obtain ⟨e, s⟩ := r
    rw [h1] at he
    refine hA F m m0 x st e s β a w _ hF hro hm h1 hR fun a1 w1 β1 hR1 hE1 => ?_
    cases e with
    | normal => exact hA F m m0 y s ex st' β1 a1 w1 Q hF hro (Nat.le_trans hm hE1.size) he hR1 fun a2 w2 β2 hR2 hE2 => hQ a2 w2 β2 hR2 (hE1.trans hR.hr hE2)
    | exit id => cases he; exact hQ a1 w1 β1 hR1 hE1
    | ret => cases he; exact hQ a1 w1 β1 hR1 hE1
  | cond c x y =>
   simp only [exec] at he
   split at he
   case h_2 => cases he
   rename_i q hq
   have hc : a.eval c = .bool q := (ev_sound hR.he hq).free0_eq rfl
   refine wpIn_cond hc ?_
   exact hA F m m0 _ st ex st' β a w Q hF hro hm he hR hQ
  | block id b =>
   simp only [exec] at he
   refine wpIn_block ?_
   cases h1 : exec P call rd n b st with
   | none => rw [h1] at he; cases he
   | some r =>
    obtain ⟨e, s⟩ := r
    rw [h1] at he
    refine hA F m m0 b st e s β a w _ hF hro hm h1 hR fun a1 w1 β1 hR1 hE1 => ?_
    cases e with
    | normal => cases he; exact hQ a1 w1 β1 hR1 hE1
    | exit i =>
     simp only at he
     show if i = id then Q .normal a1 w1 else Q (.exit i) a1 w1
     split at he
     ·rename_i hi; rw [if_pos hi]; cases he; exact hQ a1 w1 β1 hR1 hE1
     ·rename_i hi; rw [if_neg hi]; cases he; exact hQ a1 w1 β1 hR1 hE1
    | ret => cases he; exact hQ a1 w1 β1 hR1 hE1
  | loop b => exact wpIn_loop_rounds (n + 1) (hL F m m0 b st ex st' β a w Q hF hro hm he hR hQ)
  | rangeFunc g ps assign body =>
   cases rd with
   | true => simp only [exec, if_true] at he; cases he
   | false => exact range_sound hF (hro rfl) hm hN hcall hA he hR hQ
  | _ => simp only [exec] at he; cases he
theorem func_meets (hN : Named P) (hmix : P.follows .mixedOrders = true) {call : Call'} (hcall : CallSound P call) {f : FuncId} {fn : Func} {c : Code} (hfn : P.funcs[f]? = some fn) (hb : fn.body = some c)
  {args : List Value} {n : Nat} {ex : Ex} {st : St} {vs : List Value} (hx : exec P call false n c ⟨Tr.ofList args 0 .leaf, max args.length fn.ntmps, h⟩ = some (ex, st)) (hex : ex = .normal ∨ ex = .ret)
  (hv : resA P st fn.results.toList = some vs) : Meets P (.func f) args h (one vs) st.h := by
 intro F m β w args' hF hr hw hargs
 show CallsIn F m P f ⟨args'⟩ w _
 have key : CallsIn F.plain m P f ⟨args'⟩ w (Ends' β h w (one vs) st.h) := by
  refine callsIn_of_wp_marks hfn hb (hF.fn f) ?_ rfl
  obtain ⟨i1, i2⟩ := init_sound hargs fn.ntmps
  have hR0 : Rst w.heap.size β ⟨Tr.ofList args 0 .leaf, max args.length fn.ntmps, h⟩ { tmps := (⟨args'⟩ : Array Value) ++ Array.replicate (fn.ntmps - (⟨args'⟩ : Array Value).size) undef, defers := [] } w :=
   ⟨hr, hw, i1, i2, .nil⟩
  refine (exec_sound false hN hmix hcall n).1 F.plain m w.heap.size c _ ex st β _ w _ hF.plain (fun _ => rfl) (Nat.le_refl _) hx hR0 fun a' w' β' hR hE => ?_
  have hgoal : LeavesInM F.plain m P fn a'.tmps (Ends' β h w (one vs) st.h) a'.defers .returning w' := by
   obtain ⟨bs, b1, b2, b3⟩ := hR.hd.ex
   rw [b1]
   refine leaves_sound bs w' b2 b3 hR.hr hE fun w'' hr'' hE'' => ?_
   obtain ⟨v', k1, k2⟩ := results_sound hr'' hR.hw hR.he hv
   exact ⟨v', k1, v', β', rfl, k2, hr'', hR.hw, hE''⟩
  rcases hex with rfl | rfl
  ·exact hgoal
  ·exact hgoal
 exact key
theorem round_meets (hN : Named P) (hmix : P.follows .mixedOrders = true) {call : Call'} (hcall : CallSound P call) {l : Nat} {r r1 r2 : ALoop} {args : List Value} {e0 : Tr Value} {n n' : Nat} {s1 s2 : St} {ex : Ex}
  (hl : h.t.get l = some (.loop r)) (hp : setPs r.sz r.params.toList args r.e = some e0) (hx1 : exec P call true n r.assign ⟨e0, r.sz, h⟩ = some (.normal, s1)) (hl1 : s1.h.t.get l = some (.loop r1)) (hst : r1.state = .ready)
  (hx2 : exec P call true n' r.body ⟨s1.e, s1.sz, busyA s1.h l r1⟩ = some (ex, s2)) (hl2 : s2.h.t.get l = some (.loop r2)) : Meets P (.yield l) args h (.bool ex.jump.isNone) (roundA s2.h l r2 ex.jump) := by
 intro F m β w args' hF hr hw hargs x hx
 obtain ⟨r', g1, g2⟩ := hr.loop l x r hx hl
 obtain ⟨p1, p2, p3⟩ := setPs_sound _ _ _ _ _ _ hp hargs g2.env g2.sz
 have hsz : (⟨args'⟩ : Array Value).size = r'.params.size := by
  have := hargs.1
  rw [g2.params]
  simp only [List.size_toArray, Array.length_toList] at *
  omega
 refine ⟨r'.fn, _, _, _, run_yield g1 hsz, ?_⟩
 have ezip : (r'.params.zip (⟨args'⟩ : Array Value)).foldl (fun tmps (t, a) => tmps.setIfInBounds t a) r'.tmps = (r.params.toList.zip args').foldl (fun tmps (p : Tmp × Value) => tmps.setIfInBounds p.1 p.2) r'.tmps := by
  rw [← Array.foldl_toList, g2.params]
  simp [Array.toList_zip]
 refine roundIn_of_wpIn (hF.fn _) ?_
 rw [ezip, g2.assign, g2.body]
 have hR0 : Rst w.heap.size β ⟨e0, r.sz, h⟩ { tmps := (r.params.toList.zip args').foldl (fun tmps (p : Tmp × Value) => tmps.setIfInBounds p.1 p.2) r'.tmps, defers := [] } w := ⟨hr, hw, p2, p3, .nil⟩
 refine (exec_sound true hN hmix hcall n).1 (F.inRound x.g) m w.heap.size r.assign _ _ s1 β _ w _ (hF.inRound _) (fun q => by cases q) (Nat.le_refl _) hx1 hR0 fun a1 w1 β1 hR1 hE1 => ?_
 have hx1' := hE1.sub _ _ hx
 obtain ⟨r1', u1, u2⟩ := hR1.hr.loop l x r1 hx1' hl1
 obtain ⟨t1, t2, t3⟩ := setLoop_sound hR1.hr hR1.hw hx1' hl1 (r2 := { r1 with state := .busy }) (r2' := { r1' with state := .busy }) ⟨rfl, u2.pending, u2.env, u2.sz, u2.params, u2.assign, u2.body⟩
 refine ⟨_, run_beginRound u1 (u2.state.trans hst), ?_⟩
 have hR2 : Rst w.heap.size β1 ⟨s1.e, s1.sz, busyA s1.h l r1⟩ a1 (w1.putObj x.g (.loop { r1' with state := .busy })) := ⟨t1, t2, hR1.he, hR1.sz, hR1.hd.evo t3⟩
 have hE12 := hE1.trans hr t3
 refine (exec_sound true hN hmix hcall n').1 (F.inRound x.g) m w.heap.size r.body _ _ s2 β1 _ _ _ (hF.inRound _) (fun q => by cases q) hE12.size hx2 hR2 fun a3 w3 β3 hR3 hE3 => ?_
 have hE13 := hE12.trans hr hE3
 have hx3 := hE3.sub _ _ hx1'
 obtain ⟨r2', y1, y2⟩ := hR3.hr.loop l x r2 hx3 hl2
 have fin : ∀ j : Option Code, ex.jump = j → ∃ v w', (Instr.endRound x.g j).run P w3 = .ok v w' ∧ Ends' β h w (.bool ex.jump.isNone) (roundA s2.h l r2 ex.jump) (.returned v) w' := by
  intro j hj
  rw [hj]
  obtain ⟨z1, z2, z3⟩ := setLoop_sound hR3.hr hR3.hw hx3 hl2 (r2 := { r2 with state := if j.isNone then .ready else .done, pending := j }) (r2' := { r2' with state := if j.isNone then .ready else .done, pending := j }) ⟨rfl, rfl, y2.env, y2.sz, y2.params, y2.assign, y2.body⟩
  exact ⟨_, _, run_endRound j y1, _, β3, rfl, .of_free rfl, z1, z2, hE13.trans hr z3⟩
 cases ex with
 | normal => exact fin none rfl
 | exit id => exact fin _ rfl
 | ret => exact fin _ rfl
end
end Go.AM
namespace Go.AM
def posOf (L : List Nat) (id : Nat) : Option Nat := L.findIdx? (· == id)
def gcV (pos : Nat → Option Nat) : Nat → Value → Option Value
 | 0, v => if free1 v then some v else none
 | d + 1, v =>
  if free1 v then some v else
  match v with
  | .pointer (some ⟨id, off, none⟩) => (pos id).map fun j => .pointer (some ⟨j, off, none⟩)
  | .slice (some ⟨id, off, none⟩) n c => (pos id).map fun j => .slice (some ⟨j, off, none⟩) n c
  | .slice none 0 1 => some (.slice none 0 1)
  | .map (some id) => (pos id).map fun j => .map (some j)
  | .func (.func f) a c =>
   match a.toList.mapM (gcV pos d), c.toList.mapM (gcV pos d) with
   | some a', some c' => some (.func (.func f) ⟨a'⟩ ⟨c'⟩)
   | _, _ => none
  | .func (.yield l) a c => if a.size = 0 ∧ c.size = 0 then (pos l).map fun j => .func (.yield j) #[] #[] else none
  | .agg a => (a.toList.mapM (gcV pos d)).map fun a' => .agg ⟨a'⟩
  | .tuple a => (a.toList.mapM (gcV pos d)).map fun a' => .tuple ⟨a'⟩
  | .iface t v => (gcV pos d v).map (.iface t)
  | _ => none
def gcD (pos : Nat → Option Nat) (l : List Value) : Option (List Value) := if l.all free1 then some l else l.mapM (gcV pos 9)
def gcM (pos : Nat → Option Nat) (es : List MapEntry) : Option (List MapEntry) := es.mapM fun en => (gcV pos 9 en.val).map fun v => { en with val := v }
def gcE (pos : Nat → Option Nat) (e : Tr Value) : List Nat → Option (Tr Value)
 | [] => some .leaf
 | t :: r =>
  match e.get t, gcE pos e r with
  | some v, some e' => (gcV pos 9 v).map fun v' => e'.set t v'
  | _, _ => none
def gcO (k : Nat) (pos : Nat → Option Nat) (h : AH) (j id : Nat) : Option AObj :=
 if j < k ∧ j < h.wr then
  match h.t.get id with
  | some (.alias r lo n) => if r < h.wr then some (.alias r lo n) else none
  | o => o
 else
 match h.t.get id with
 | some (.map es ck) => (gcM pos es).map (.map · ck)
 | some (.row d c l ro n0) =>
  if j < k then (if c < k then (gcD pos d).map fun d' => .row d' c l ro n0 else none)
  else if c = id then (gcD pos d).map fun d' => .row d' j BIG ro d.length
  else (gcD pos (d.take (min (lowAt l id) n0))).map fun d' => .row d' j BIG true (d.take (min (lowAt l id) n0)).length
 | some (.alias _ lo _) =>
  if j < k then none
  else
   match h.fam id with
   | some f =>
    if lo = 0 then
     if id = f.cur then (gcD pos f.data).map fun d' => .row d' j BIG f.ro f.data.length
     else (gcD pos (f.data.take (f.rb id))).map fun d' => .row d' j BIG true (f.data.take (f.rb id)).length
    else none
   | none => none
 | _ => none
def gcH (k : Nat) (pos : Nat → Option Nat) (h : AH) : Nat → List Nat → Option (List AObj)
 | _, [] => some []
 | j, id :: r =>
  match gcO k pos h j id, gcH k pos h (j + 1) r with
  | some o, some l => some (o :: l)
  | _, _ => none
def gcOk (k : Nat) (h : AH) (L : List Nat) : Bool :=
 decide (k ≤ L.length) && (L.take k == List.range k) && ((L.drop k).all fun id => decide (k ≤ id) && decide (id < h.next)) && decide L.Nodup &&
 (List.range L.length).all fun j => (List.range j).all fun i => decide (j < k) || (match L[i]?, L[j]? with | some a, some b => rootOf h a != rootOf h b | _, _ => false)
def gc (k : Nat) (L slots : List Nat) (st : St) : Option St :=
 if gcOk k st.h L then
  match gcE (posOf L) st.e slots, gcH k (posOf L) st.h 0 L with
  | some e, some os => some ⟨e, st.sz, ⟨Tr.ofList os 0 .leaf, L.length, st.h.wr⟩⟩
  | _, _ => none
 else none
theorem mapM_some {α γ : Type} {f : α → Option γ} : ∀ {l : List α} {l' : List γ}, l.mapM f = some l' → l'.length = l.length ∧ ∀ (i : Nat) (y : γ), l'[i]? = some y → ∃ x, l[i]? = some x ∧ f x = some y
 | [], l', h => by
  simp only [List.mapM_nil, Option.pure_def, Option.some.injEq] at h
  subst h
  exact ⟨rfl, fun i y hi => by simp at hi⟩
 | x :: l, l', h => by
  rw [List.mapM_cons] at h
  cases hx : f x with
  | none => rw [hx] at h; cases h
  | some y =>
   rw [hx] at h
   simp only [Option.bind_eq_bind, Option.bind_some] at h
   cases hl : l.mapM f with
   | none => rw [hl] at h; cases h
   | some l2 =>
    rw [hl] at h
    simp only [Option.bind_some, Option.pure_def, Option.some.injEq] at h
    subst h
    obtain ⟨k1, k2⟩ := mapM_some hl
    refine ⟨by simp [k1], fun i z hi => ?_⟩
    cases i with
    | zero => simp at hi; subst hi; exact ⟨x, rfl, hx⟩
    | succ i => simpa using k2 i z (by simpa using hi)
section
variable {β β1 : Ren} {pos : Nat → Option Nat}
theorem gcV_sound (hp : ∀ id j, pos id = some j → β1 j = β id) : ∀ (d : Nat) {v u v' : Value}, gcV pos d v = some u → VR β v v' → VR β1 u v'
 | 0, v, u, v', h, hv => by
  simp only [gcV] at h
  split at h
  ·cases h
   rw [hv.free1_eq ‹_›]
   exact .of_free1 ‹_›
  ·cases h
 | d + 1, v, u, v', h, hv => by
  have arr : ∀ {a a' : Array Value} {l : List Value}, a.toList.mapM (gcV pos d) = some l → a.size = a'.size → (∀ (i : Nat) (v v' : Value), a[i]? = some v → a'[i]? = some v' → VR β v v') →
    l.length = a'.size ∧ ∀ (i : Nat) (v v' : Value), l[i]? = some v → a'[i]? = some v' → VR β1 v v' := by
   intro a a' l hm hs hr
   obtain ⟨k1, k2⟩ := mapM_some hm
   refine ⟨by rw [k1, Array.length_toList, hs], fun i w w' hi hi' => ?_⟩
   obtain ⟨x, hx1, hx2⟩ := k2 i w hi
   exact gcV_sound hp d hx2 (hr i x w' (by simpa using hx1) hi')
  simp only [gcV] at h
  split at h
  ·cases h
   rw [hv.free1_eq ‹_›]
   exact .of_free1 ‹_›
  rename_i hnf
  split at h
  ·obtain ⟨j, h1, h2⟩ := map_inv' h
   subst h2
   cases hv with
   | free _ hf => simp [free0] at hf
   | ptr hb hl => exact .ptr (by rw [hp _ _ h1]; exact hb) hl
  ·obtain ⟨j, h1, h2⟩ := map_inv' h
   subst h2
   cases hv with
   | free _ hf => simp [free0] at hf
   | slice hb hl hc ha => exact .slice (by rw [hp _ _ h1]; exact hb) hl hc ha
  ·cases h
   cases hv with
   | free _ hf => simp [free0] at hf
   | empty => exact .empty
  ·obtain ⟨j, h1, h2⟩ := map_inv' h
   subst h2
   cases hv with
   | free _ hf => simp [free0] at hf
   | map hb => exact .map (by rw [hp _ _ h1]; exact hb)
  ·split at h
   ·rename_i a' c' ha hc
    cases h
    cases hv with
    | free _ hf => simp [free0] at hf
    | func m1 m2 m3 m4 =>
     obtain ⟨p1, p2⟩ := arr ha m1 m2
     obtain ⟨q1, q2⟩ := arr hc m3 m4
     exact .func p1 (fun i v v' x y => p2 i v v' (by simpa using x) y) q1 (fun i v v' x y => q2 i v v' (by simpa using x) y)
   ·cases h
  ·split at h
   ·obtain ⟨j, h1, h2⟩ := map_inv' h
    subst h2
    cases hv with
    | free _ hf => simp [free0] at hf
    | yield hb => exact .yield (by rw [hp _ _ h1]; exact hb)
   ·cases h
  ·obtain ⟨l, h1, h2⟩ := map_inv' h
   subst h2
   cases hv with
   | free _ hf => simp [free0] at hf
   | agg m1 m2 => obtain ⟨p1, p2⟩ := arr h1 m1 m2; exact .agg p1 fun i v v' x y => p2 i v v' (by simpa using x) y
  ·obtain ⟨l, h1, h2⟩ := map_inv' h
   subst h2
   cases hv with
   | free _ hf => simp [free0] at hf
   | tuple m1 m2 => obtain ⟨p1, p2⟩ := arr h1 m1 m2; exact .tuple p1 fun i v v' x y => p2 i v v' (by simpa using x) y
  ·obtain ⟨l, h1, h2⟩ := map_inv' h
   subst h2
   cases hv with
   | free _ hf => simp [free0] at hf
   | iface m1 => exact .iface (gcV_sound hp d h1 m1)
  ·cases h
theorem gcD_sound (hp : ∀ id j, pos id = some j → β1 j = β id) {l l' : List Value} (h : gcD pos l = some l') :
  l'.length = l.length ∧ ∀ (i : Nat) (u v' : Value), l'[i]? = some u → (∀ v, l[i]? = some v → VR β v v') → VR β1 u v' := by
 unfold gcD at h
 split at h
 ·rename_i hf
  cases h
  refine ⟨rfl, fun i u v' hi hv => ?_⟩
  have hu : free1 u = true := List.all_eq_true.1 hf u (List.mem_of_getElem? hi)
  rw [(hv u hi).free1_eq hu]
  exact .of_free1 hu
 ·obtain ⟨k1, k2⟩ := mapM_some h
  refine ⟨k1, fun i u v' hi hv => ?_⟩
  obtain ⟨x, hx1, hx2⟩ := k2 i u hi
  exact gcV_sound hp 9 hx2 (hv x hx1)
theorem gcM_sound (hp : ∀ id j, pos id = some j → β1 j = β id) {es es1 es' : List MapEntry} (h : gcM pos es = some es1) (he : EsR β es es') : EsR β1 es1 es' := by
 obtain ⟨k1, k2⟩ := mapM_some h
 refine ⟨by rw [k1]; exact he.1, fun i a b ha hb => ?_⟩
 obtain ⟨x, hx1, hx2⟩ := k2 i a ha
 obtain ⟨v, hv1, hv2⟩ := map_inv' hx2
 subst hv2
 have := he.2 i x b hx1 hb
 exact ⟨this.key, this.fk, gcV_sound hp 9 hv1 this.val, this.born⟩
theorem gcE_sound (hp : ∀ id j, pos id = some j → β1 j = β id) {e : Tr Value} {tmps : Array Value} (he : EnvW β e tmps) : ∀ {ts : List Nat} {e' : Tr Value}, gcE pos e ts = some e' → EnvW β1 e' tmps
 | [], e', h => by
  cases h
  intro t v hv
  cases hv
 | t :: r, e', h => by
  simp only [gcE] at h
  split at h
  case h_2 => cases h
  rename_i v e2 h1 h2
  obtain ⟨u, h3, h4⟩ := map_inv' h
  subst h4
  have ih := gcE_sound hp he h2
  intro s w hw
  rw [Tr.get_set] at hw
  split at hw
  ·rename_i hs
   subst hs
   cases hw
   obtain ⟨v', k1, k2⟩ := he _ _ h1
   exact ⟨v', k1, gcV_sound hp 9 h3 k2⟩
  ·exact ih s w hw
end
end Go.AM
namespace Go.AM
theorem posOf_some {L : List Nat} {id j : Nat} (h : posOf L id = some j) : L[j]? = some id := by
 unfold posOf at h
 obtain ⟨h1, h2, _⟩ := List.findIdx?_eq_some_iff_getElem.1 h
 rw [List.getElem?_eq_getElem h1]
 simpa using h2
theorem gcH_some {k : Nat} {pos : Nat → Option Nat} {h : AH} : ∀ {L : List Nat} {s : Nat} {os : List AObj}, gcH k pos h s L = some os → os.length = L.length ∧ ∀ (j : Nat) (id : Nat), L[j]? = some id → ∃ o, os[j]? = some o ∧ gcO k pos h (s + j) id = some o
 | [], s, os, hq => by
  cases hq
  exact ⟨rfl, fun j id hj => by simp at hj⟩
 | x :: L, s, os, hq => by
  simp only [gcH] at hq
  split at hq
  ·rename_i o l h1 h2
   cases hq
   obtain ⟨k1, k2⟩ := gcH_some h2
   refine ⟨by simp [k1], fun j id hj => ?_⟩
   cases j with
   | zero => simp at hj; subst hj; exact ⟨o, rfl, h1⟩
   | succ j =>
    obtain ⟨o', m1, m2⟩ := k2 j id (by simpa using hj)
    exact ⟨o', by simpa using m1, by rw [← m2]; congr 1; omega⟩
  ·cases hq
structure GcOk (k : Nat) (h : AH) (L : List Nat) : Prop where
 kl : k ≤ L.length
 low : ∀ j, j < k → L[j]? = some j
 high : ∀ j id, k ≤ j → L[j]? = some id → k ≤ id ∧ id < h.next
 inj : ∀ (i j id : Nat), L[i]? = some id → L[j]? = some id → i = j
 roots : ∀ i j a b, i < j → k ≤ j → L[i]? = some a → L[j]? = some b → rootOf h a ≠ rootOf h b
theorem gcOk_spec {k : Nat} {h : AH} {L : List Nat} (hq : gcOk k h L = true) : GcOk k h L := by
 unfold gcOk at hq
 simp only [Bool.and_eq_true, decide_eq_true_eq, beq_iff_eq] at hq
 obtain ⟨⟨⟨⟨h1, h2⟩, h3⟩, h4⟩, h5⟩ := hq
 have hlt : ∀ {i a : Nat}, L[i]? = some a → i < L.length := fun hi => (List.getElem?_eq_some_iff.1 hi).1
 refine ⟨h1, fun j hj => ?_, fun j id hj hid => ?_, fun i j id hi hj => ?_, fun i j a b hij hkj ha hb => ?_⟩
 ·have : (L.take k)[j]? = (List.range k)[j]? := by rw [h2]
  rw [List.getElem?_take_of_lt hj] at this
  rw [this, List.getElem?_range hj]
 ·have hm : id ∈ L.drop k := List.mem_of_getElem? (i := j - k) (by rw [List.getElem?_drop]; rwa [show k + (j - k) = j by omega])
  have := List.all_eq_true.1 h3 id hm
  simpa using this
 ·have := List.pairwise_iff_getElem.1 h4
  have e1 : L[i]'(hlt hi) = id := by have := List.getElem?_eq_getElem (hlt hi); rw [hi] at this; exact (Option.some.inj this).symm
  have e2 : L[j]'(hlt hj) = id := by have := List.getElem?_eq_getElem (hlt hj); rw [hj] at this; exact (Option.some.inj this).symm
  rcases Nat.lt_trichotomy i j with q | q | q
  ·exact absurd (e1.trans e2.symm) (this i j (hlt hi) (hlt hj) q)
  ·exact q
  ·exact absurd (e2.trans e1.symm) (this j i (hlt hj) (hlt hi) q)
 ·have := List.all_eq_true.1 (List.all_eq_true.1 h5 j (List.mem_range.2 (hlt hb))) i (List.mem_range.2 hij)
  rw [ha, hb] at this
  simp only [Bool.or_eq_true, decide_eq_true_eq, bne_iff_ne] at this
  rcases this with q | q
  ·omega
  ·exact q
section
variable {k : Nat} {L slots : List Nat} {st st0 : St} {β0 β : Ren} {h0 : AH} {w0 w : World} {a : Act} {m0 : Nat}
def reN (L : List Nat) (β : Ren) : Ren := fun j => match L[j]? with | some id => β id | none => none
theorem reN_some {j : Nat} {x : Bx} (h : reN L β j = some x) : ∃ id, L[j]? = some id ∧ β id = some x := by
 unfold reN at h
 split at h
 ·exact ⟨_, ‹_›, h⟩
 ·cases h
theorem reN_at {j id : Nat} (h : L[j]? = some id) : reN L β j = β id := by unfold reN; rw [h]
structure FamIs (k : Nat) (L : List Nat) (h h1 : AH) (β : Ren) (h0 : AH) (j id : Nat) (f f1 : Fam) : Prop where
 lo : f1.lo = f.lo
 rb : f1.rb j ≤ f.rb id
 data : (∃ x, β id = some x) → ∀ p u, f1.lo ≤ p → p < f1.rb j → f1.data[p]? = some u → ∃ v, f.data[p]? = some v ∧ ∀ v', VR β v v' → VR (reN L β) u v'
 own : f1.ro = false → f.ro = false ∧ f1.n ≤ f.n
 ro : f.ro = true → f1.ro = true
 root : (j < k → f1.root = f.root ∧ f1.ro = f.ro) ∧ (k ≤ j → f1.root = j)
 wf : f1.lo ≤ f1.n ∧ (j = f1.cur → f1.n = f1.data.length) ∧ (j ≠ f1.cur → min (lowAt f1.low j) f1.n ≤ f1.data.length) ∧ f1.cur < L.length
theorem reN_low (hok : GcOk k st.h L) {id : Nat} (hid : id < k) : reN L β id = β id := reN_at (hok.low id hid)
theorem sub_res (hok : GcOk k st.h L) : Sub (res β k) (reN L β) := fun id x hx => by
 obtain ⟨h1, h2⟩ := res_some hx
 rw [reN_low hok h1]; exact h2
theorem pos_ren {id j : Nat} (h : posOf L id = some j) : reN L β j = β id := reN_at (posOf_some h)
theorem fam_row {h : AH} {id : Nat} {d : List Value} {c l : Nat} {ro : Bool} {n0 : Nat} (hg : h.t.get id = some (.row d c l ro n0)) : h.fam id = some ⟨id, 0, n0, d, c, l, ro⟩ := by unfold AH.fam; rw [hg]
theorem fam_alias {h : AH} {id r lo n : Nat} {d : List Value} {c l : Nat} {ro : Bool} {n0 : Nat} (hg : h.t.get id = some (.alias r lo n)) (hg2 : h.t.get r = some (.row d c l ro n0)) : h.fam id = some ⟨r, lo, n, d, c, l, ro⟩ := by unfold AH.fam; rw [hg]; simp only [hg2]
theorem data_exact (hok : GcOk k st.h L) (hk : h0.next = k) (hr0 : HR β0 h0 w0) (hE : Evo β0 h0 w0 β st.h w) {j : Nat} {x : Bx} {f : Fam} (hjk : j < k) (hx : β j = some x) (hf0 : h0.fam j = some f) :
  ∀ p u, f.lo ≤ p → p < f.rb j → f.data[p]? = some u → ∃ v, f.data[p]? = some v ∧ ∀ v', VR β v v' → VR (reN L β) u v' := by
 intro p u h1 h2 h3
 refine ⟨u, h3, fun v' hv => ?_⟩
 cases hb : β0 j with
 | none => have := hE.new j x hx hb; omega
 | some y =>
  obtain ⟨_, c, el, fz, _, _, m3, _⟩ := hr0.row _ _ _ hb hf0
  obtain ⟨v'', _, q2⟩ := m3 p u h1 h2 h3
  have hcl : Cl k u := Cl.of_vr (fun id x hx => by rw [← hk]; exact (hr0.dom id x hx).1) q2
  exact (hv.res hcl).mono (sub_res hok)
theorem fam_new (hok : GcOk k st.h L) (hk : h0.next = k) (hr0 : HR β0 h0 w0) (hw0 : Wf h0) (hw : Wf st.h) (hE : Evo β0 h0 w0 β st.h w) {os : List AObj} (hos : gcH k (posOf L) st.h 0 L = some os)
  {j id : Nat} (hj : L[j]? = some id) {f1 : Fam} (hf1 : (⟨Tr.ofList os 0 .leaf, L.length, st.h.wr⟩ : AH).fam j = some f1) :
  ∃ f, st.h.fam id = some f ∧ FamIs k L st.h (⟨Tr.ofList os 0 .leaf, L.length, st.h.wr⟩ : AH) β h0 j id f f1 := by
 obtain ⟨ol, og⟩ := gcH_some hos
 have hget : ∀ i, (Tr.ofList os 0 .leaf).get i = os[i]? := by
  intro i
  rw [Tr.get_ofList]
  by_cases hi : i < os.length
  ·rw [if_pos ⟨Nat.zero_le _, by omega⟩, Nat.sub_zero]
  ·rw [if_neg (by omega), List.getElem?_eq_none (by omega)]; rfl
 have hjl : j < L.length := (List.getElem?_eq_some_iff.1 hj).1
 obtain ⟨o, ho1, ho2⟩ := og j id hj
 rw [Nat.zero_add] at ho2
 unfold gcO at ho2
 split at ho2
 ·-- kept as it is
  rename_i hc
  obtain ⟨hjk, hjw⟩ := hc
  have hid : id = j := by have := hok.low j hjk; rw [hj] at this; exact Option.some.inj this
  subst hid
  have hobj := hE.objs id (by omega) hjw
  have fin : ∀ f, h0.fam id = some f → st.h.fam id = some f → f1 = f → FamIs k L st.h (⟨Tr.ofList os 0 .leaf, L.length, st.h.wr⟩ : AH) β h0 id id f f1 := by
   intro f e1 e2 e3
   subst e3
   refine ⟨rfl, Nat.le_refl _, fun ⟨x, hx⟩ => data_exact hok hk hr0 hE hjk hx e1, fun h => ⟨h, Nat.le_refl _⟩, fun h => h, ⟨fun _ => ⟨rfl, rfl⟩, fun h => by omega⟩, hw0.lon _ _ e1, hw0.curn _ _ e1, hw0.stale _ _ e1, ?_⟩
   have := hw0.cur _ _ e1
   have := hok.kl
   omega
  split at ho2
  ·rename_i r lo n hg
   split at ho2
   case isFalse => cases ho2
   rename_i hrw
   cases ho2
   rw [hobj] at hg
   obtain ⟨d, c, l, ro, n0, hg2, hne⟩ := hw0.ali _ _ _ _ hg
   have hrk : r < k := by rw [← hk]; exact hw0.lt _ _ hg2
   have hobj2 := hE.objs r (by omega) hrw
   obtain ⟨o2, hp1, hp2⟩ := og r r (hok.low r hrk)
   rw [Nat.zero_add] at hp2
   unfold gcO at hp2
   rw [if_pos ⟨hrk, hrw⟩, hobj2, hg2] at hp2
   cases hp2
   have e0 := fam_alias hg hg2
   have e1 := fam_alias (h := st.h) (by rw [hobj]; exact hg) (by rw [hobj2]; exact hg2)
   have e2 := fam_alias (h := (⟨Tr.ofList os 0 .leaf, L.length, st.h.wr⟩ : AH)) (by rw [← ho1]; exact hget id) (by rw [← hp1]; exact hget r)
   rw [hf1] at e2
   exact ⟨_, e1, fin _ e0 e1 (Option.some.inj e2)⟩
  ·rename_i hna
   cases hg : st.h.t.get id with
   | none => rw [hg] at ho2; cases ho2
   | some ob =>
    rw [hg] at ho2
    have ho3 : ob = o := Option.some.inj ho2
    subst ho3
    have hg0 : h0.t.get id = some ob := by rw [← hobj]; exact hg
    have hgn : (⟨Tr.ofList os 0 .leaf, L.length, st.h.wr⟩ : AH).t.get id = some ob := by rw [← ho1]; exact hget id
    cases ob with
    | row d c l ro n0 =>
     have e2 := fam_row hgn
     rw [hf1] at e2
     exact ⟨_, fam_row hg, fin _ (fam_row hg0) (fam_row hg) (Option.some.inj e2)⟩
    | alias r lo n => exact absurd hg (hna r lo n)
    | map es ck => exact (fam_not_map hf1 hgn).elim
    | loop r => exact (fam_not_loop hf1 hgn).elim
 ·rename_i hnc
  have hgn : (⟨Tr.ofList os 0 .leaf, L.length, st.h.wr⟩ : AH).t.get j = some o := by rw [← ho1]; exact hget j
  split at ho2
  ·obtain ⟨es, _, h2⟩ := map_inv' ho2
   subst h2
   exact (fam_not_map hf1 hgn).elim
  ·rename_i d c l ro n0 hg
   have hf := fam_row hg
   split at ho2
   ·rename_i hjk
    split at ho2
    case isFalse => cases ho2
    rename_i hck
    obtain ⟨d', h1, h2⟩ := map_inv' ho2
    subst h2
    obtain ⟨k1, k2⟩ := gcD_sound (β := β) (β1 := reN L β) (fun id j h => pos_ren h) h1
    have hid : id = j := by have := hok.low j hjk; rw [hj] at this; exact Option.some.inj this
    subst hid
    rw [fam_row hgn] at hf1
    cases hf1
    refine ⟨_, hf, rfl, Nat.le_refl _, fun _ p u a b c => ?_, fun h => ⟨h, Nat.le_refl _⟩, fun h => h, ⟨fun _ => ⟨rfl, rfl⟩, fun h => by omega⟩, Nat.zero_le _, ?_, ?_, ?_⟩
    ·have hlt : p < d.length := by rw [← k1]; exact (List.getElem?_eq_some_iff.1 c).1
     exact ⟨d[p], List.getElem?_eq_getElem hlt, fun v' hv => k2 p u v' c fun v hv2 => by rw [List.getElem?_eq_getElem hlt] at hv2; cases hv2; exact hv⟩
    ·intro h; rw [k1]; exact hw.curn _ _ hf h
    ·intro h; rw [k1]; exact hw.stale _ _ hf h
    ·have := hok.kl; simp only; omega
   ·rename_i hjk
    split at ho2
    ·rename_i hci
     subst hci
     obtain ⟨d', h1, h2⟩ := map_inv' ho2
     subst h2
     obtain ⟨k1, k2⟩ := gcD_sound (β := β) (β1 := reN L β) (fun id j h => pos_ren h) h1
     have hn0 : n0 = d.length := hw.curn _ _ hf rfl
     rw [fam_row hgn] at hf1
     cases hf1
     refine ⟨_, hf, rfl, ?_, fun _ p u a b c => ?_, fun h => ⟨h, by simp only; omega⟩, fun h => h, ⟨fun h => absurd h hjk, fun _ => rfl⟩, Nat.zero_le _, fun _ => k1.symm, fun h => absurd rfl h, hjl⟩
     ·simp only [Fam.rb, if_true]; omega
     ·have hlt : p < d.length := by rw [← k1]; exact (List.getElem?_eq_some_iff.1 c).1
      exact ⟨d[p], List.getElem?_eq_getElem hlt, fun v' hv => k2 p u v' c fun v hv2 => by rw [List.getElem?_eq_getElem hlt] at hv2; cases hv2; exact hv⟩
    ·rename_i hci
     obtain ⟨d', h1, h2⟩ := map_inv' ho2
     subst h2
     obtain ⟨k1, k2⟩ := gcD_sound (β := β) (β1 := reN L β) (fun id j h => pos_ren h) h1
     rw [fam_row hgn] at hf1
     cases hf1
     refine ⟨_, hf, rfl, ?_, fun _ p u a b c => ?_, fun h => (by cases h), fun _ => rfl, ⟨fun h => absurd h hjk, fun _ => rfl⟩, Nat.zero_le _, fun _ => k1.symm, fun h => absurd rfl h, hjl⟩
     ·simp only [Fam.rb, if_true, if_neg (Ne.symm hci), List.length_take]; omega
     ·have hlt : p < (d.take (min (lowAt l id) n0)).length := by rw [← k1]; exact (List.getElem?_eq_some_iff.1 c).1
      have hlt2 : p < d.length := by simp at hlt; omega
      have hlt3 : p < min (lowAt l id) n0 := by simp at hlt; omega
      exact ⟨d[p], List.getElem?_eq_getElem hlt2, fun v' hv => k2 p u v' c fun v hv2 => by rw [List.getElem?_take_of_lt hlt3, List.getElem?_eq_getElem hlt2] at hv2; cases hv2; exact hv⟩
  ·rename_i r lo n hg
   split at ho2
   ·cases ho2
   rename_i hjk
   split at ho2
   case h_2 => cases ho2
   rename_i f hf
   split at ho2
   case isFalse => cases ho2
   rename_i hlo
   have hflo : f.lo = 0 := by
    unfold AH.fam at hf
    rw [hg] at hf
    simp only at hf
    split at hf
    ·cases hf; exact hlo
    ·cases hf
   split at ho2
   ·rename_i hci
    obtain ⟨d', h1, h2⟩ := map_inv' ho2
    subst h2
    obtain ⟨k1, k2⟩ := gcD_sound (β := β) (β1 := reN L β) (fun id j h => pos_ren h) h1
    have hn0 : f.n = f.data.length := hw.curn _ _ hf hci
    rw [fam_row hgn] at hf1
    cases hf1
    refine ⟨_, hf, hflo.symm, ?_, fun _ p u a b c => ?_, fun h => ⟨h, by simp only; omega⟩, fun h => h, ⟨fun h => absurd h hjk, fun _ => rfl⟩, Nat.zero_le _, fun _ => k1.symm, fun h => absurd rfl h, hjl⟩
    ·simp only [Fam.rb, if_true, if_pos hci]; omega
    ·have hlt : p < f.data.length := by rw [← k1]; exact (List.getElem?_eq_some_iff.1 c).1
     exact ⟨f.data[p], List.getElem?_eq_getElem hlt, fun v' hv => k2 p u v' c fun v hv2 => by rw [List.getElem?_eq_getElem hlt] at hv2; cases hv2; exact hv⟩
   ·rename_i hci
    obtain ⟨d', h1, h2⟩ := map_inv' ho2
    subst h2
    obtain ⟨k1, k2⟩ := gcD_sound (β := β) (β1 := reN L β) (fun id j h => pos_ren h) h1
    rw [fam_row hgn] at hf1
    cases hf1
    refine ⟨_, hf, hflo.symm, ?_, fun _ p u a b c => ?_, fun h => (by cases h), fun _ => rfl, ⟨fun h => absurd h hjk, fun _ => rfl⟩, Nat.zero_le _, fun _ => k1.symm, fun h => absurd rfl h, hjl⟩
    ·simp only [Fam.rb, if_true, if_neg hci, List.length_take]; omega
    ·have hlt : p < (f.data.take (f.rb id)).length := by rw [← k1]; exact (List.getElem?_eq_some_iff.1 c).1
     have hlt2 : p < f.data.length := by simp at hlt; omega
     have hlt3 : p < f.rb id := by simp at hlt; omega
     exact ⟨f.data[p], List.getElem?_eq_getElem hlt2, fun v' hv => k2 p u v' c fun v hv2 => by rw [List.getElem?_take_of_lt hlt3, List.getElem?_eq_getElem hlt2] at hv2; cases hv2; exact hv⟩
  ·cases ho2
end
end Go.AM
namespace Go.AM
section
variable {k : Nat} {L slots : List Nat} {st st0 : St} {β0 β : Ren} {h0 : AH} {w0 w : World} {a : Act} {m0 : Nat}
theorem flat_gcO {h : AH} {pos : Nat → Option Nat} {j id : Nat} {o : AObj} {f : Fam} (ho : gcO k pos h j id = some o) (hfl : o.flat = true) (hf : h.fam id = some f) : False := by
 unfold gcO at ho
 split at ho
 ·split at ho
  ·split at ho
   ·cases ho; cases hfl
   ·cases ho
  ·have := fam_flat ho hfl
   rw [hf] at this; cases this
 ·split at ho
  ·rename_i hg; exact fam_not_map hf hg
  ·split at ho
   ·split at ho
    ·obtain ⟨d', _, h2⟩ := map_inv' ho; subst h2; cases hfl
    ·cases ho
   ·split at ho
    ·obtain ⟨d', _, h2⟩ := map_inv' ho; subst h2; cases hfl
    ·obtain ⟨d', _, h2⟩ := map_inv' ho; subst h2; cases hfl
  ·split at ho
   ·cases ho
   ·split at ho
    ·split at ho
     ·split at ho
      ·obtain ⟨d', _, h2⟩ := map_inv' ho; subst h2; cases hfl
      ·obtain ⟨d', _, h2⟩ := map_inv' ho; subst h2; cases hfl
     ·cases ho
    ·cases ho
  ·cases ho
theorem gc_sound (hg : gc k L slots st = some st0) (hk : h0.next = k) (hr0 : HR β0 h0 w0) (hw0 : Wf h0) (hR : Rst m0 β st a w) (hE : Evo β0 h0 w0 β st.h w) :
  ∃ β1, Rst m0 β1 st0 a w ∧ Evo β0 h0 w0 β1 st0.h w := by
 unfold gc at hg
 split at hg
 case isFalse => cases hg
 rename_i hok0
 have hok := gcOk_spec hok0
 split at hg
 case h_2 => cases hg
 rename_i e os he hos
 cases hg
 obtain ⟨ol, og⟩ := gcH_some hos
 have hget : ∀ i, (Tr.ofList os 0 .leaf).get i = os[i]? := by
  intro i
  rw [Tr.get_ofList]
  by_cases hi : i < os.length
  ·rw [if_pos ⟨Nat.zero_le _, by omega⟩, Nat.sub_zero]
  ·rw [if_neg (by omega), List.getElem?_eq_none (by omega)]; rfl
 have hpos : ∀ id j, posOf L id = some j → reN L β j = β id := fun id j h => pos_ren h
 -- a map or a record under its new number
 have obj : ∀ {j id : Nat} {x : Bx} {o : AObj}, L[j]? = some id → β id = some x → os[j]? = some o → o.flat = true →
   (∃ es ck es1, o = .map es1 ck ∧ st.h.t.get id = some (.map es ck) ∧ ∀ es', EsR β es es' → EsR (reN L β) es1 es') ∨ (∃ r, o = .loop r ∧ st.h.t.get id = some (.loop r) ∧ ∀ r', LoopR β r r' → LoopR (reN L β) r r') := by
  intro j id x o hj hx ho hfl
  obtain ⟨o', ho1, ho2⟩ := og j id hj
  rw [ho] at ho1
  cases ho1
  rw [Nat.zero_add] at ho2
  unfold gcO at ho2
  split at ho2
  ·rename_i hc
   obtain ⟨hjk, hjw⟩ := hc
   have hid : id = j := by have := hok.low j hjk; rw [hj] at this; exact Option.some.inj this
   subst hid
   have hobj := hE.objs id (by omega) hjw
   have hb0 : ∃ y, β0 id = some y := by
    cases hb : β0 id with
    | none => have := hE.new id x hx hb; omega
    | some y => exact ⟨y, rfl⟩
   obtain ⟨y, hb0⟩ := hb0
   have hcl : ∀ {u u' : Value}, VR β0 u u' → Cl k u := fun hv => Cl.of_vr (fun id x hx => by rw [← hk]; exact (hr0.dom id x hx).1) hv
   split at ho2
   ·split at ho2
    ·cases ho2; cases hfl
    ·cases ho2
   ·rename_i hna
    have ho3 : st.h.t.get id = some o := ho2
    have hg0 : h0.t.get id = some o := by rw [← hobj]; exact ho3
    cases o with
    | row => cases hfl
    | alias => cases hfl
    | map es ck =>
     refine .inl ⟨es, ck, es, rfl, ho3, fun es' hes => ⟨hes.1, fun i a b h1 h2 => ?_⟩⟩
     obtain ⟨es'', _, q2⟩ := hr0.map _ _ _ _ hb0 hg0
     have hlt : i < es.length := (List.getElem?_eq_some_iff.1 h1).1
     have hc := (q2.2 i a _ h1 (List.getElem?_eq_getElem (by rw [← q2.1]; exact hlt))).val
     have := hes.2 i a b h1 h2
     exact ⟨this.key, this.fk, (this.val.res (hcl hc)).mono (sub_res hok), this.born⟩
    | loop r =>
     refine .inr ⟨r, rfl, ho3, fun r' hr' => { hr' with env := fun t v hv => ?_ }⟩
     obtain ⟨r'', _, q2⟩ := hr0.loop _ _ _ hb0 hg0
     obtain ⟨v', q3, q4⟩ := hr'.env t v hv
     obtain ⟨v'', _, q5⟩ := q2.env t v hv
     exact ⟨v', q3, (q4.res (hcl q5)).mono (sub_res hok)⟩
  ·split at ho2
   ·rename_i es ck hg
    obtain ⟨es1, h1, h2⟩ := map_inv' ho2
    subst h2
    exact .inl ⟨es, ck, es1, rfl, hg, fun es' hes => gcM_sound hpos h1 hes⟩
   ·split at ho2
    ·split at ho2
     ·obtain ⟨d', _, h2⟩ := map_inv' ho2; subst h2; cases hfl
     ·cases ho2
    ·split at ho2
     ·obtain ⟨d', _, h2⟩ := map_inv' ho2; subst h2; cases hfl
     ·obtain ⟨d', _, h2⟩ := map_inv' ho2; subst h2; cases hfl
   ·split at ho2
    ·cases ho2
    ·split at ho2
     ·split at ho2
      ·split at ho2
       ·obtain ⟨d', _, h2⟩ := map_inv' ho2; subst h2; cases hfl
       ·obtain ⟨d', _, h2⟩ := map_inv' ho2; subst h2; cases hfl
      ·cases ho2
     ·cases ho2
   ·cases ho2
 have fam : ∀ {j id : Nat} {f1 : Fam}, L[j]? = some id → (⟨Tr.ofList os 0 .leaf, L.length, st.h.wr⟩ : AH).fam j = some f1 → ∃ f, st.h.fam id = some f ∧ FamIs k L st.h (⟨Tr.ofList os 0 .leaf, L.length, st.h.wr⟩ : AH) β h0 j id f f1 :=
  fun h1 h3 => fam_new hok hk hr0 hw0 hR.hw hE hos h1 h3
 have heap : HR (reN L β) (⟨Tr.ofList os 0 .leaf, L.length, st.h.wr⟩ : AH) w := by
  refine ⟨fun j x hx => ?_, fun j x f1 hx hf => ?_, fun j x es ck hx hm => ?_, fun j x r hx hm => ?_, fun i j x y hx hy hxy => ?_⟩
  ·obtain ⟨id, h1, h2⟩ := reN_some hx
   exact ⟨(List.getElem?_eq_some_iff.1 h1).1, (hR.hr.dom _ _ h2).2⟩
  ·obtain ⟨id, h1, h2⟩ := reN_some hx
   obtain ⟨f, q1, q2⟩ := fam h1 hf
   obtain ⟨r1, c, el, fz, r2, r3, r4, r5⟩ := hR.hr.row _ _ _ h2 q1
   refine ⟨by rw [q2.lo]; exact r1, c, el, fz, r2, r3, fun p u a1 a2 a3 => ?_, fun hro => ?_⟩
   ·obtain ⟨v, s1, s2⟩ := q2.data ⟨x, h2⟩ p u a1 a2 a3
    obtain ⟨v', t1, t2⟩ := r4 p v (by rw [← q2.lo]; exact a1) (Nat.lt_of_lt_of_le a2 q2.rb) s1
    exact ⟨v', t1, s2 v' t2⟩
   ·obtain ⟨s1, s2⟩ := q2.own hro
    obtain ⟨t1, t2⟩ := r5 s1
    refine ⟨t1, ?_⟩
    have := q2.lo
    omega
  ·obtain ⟨id, h1, h2⟩ := reN_some hx
   have hm' : os[j]? = some (.map es ck) := by rw [← hget]; exact hm
   rcases obj h1 h2 hm' rfl with ⟨es0, ck0, es1, e1, e2, e3⟩ | ⟨r, e1, _⟩
   ·cases e1
    obtain ⟨es', s1, s2⟩ := hR.hr.map _ _ _ _ h2 e2
    exact ⟨es', s1, e3 _ s2⟩
   ·cases e1
  ·obtain ⟨id, h1, h2⟩ := reN_some hx
   have hm' : os[j]? = some (.loop r) := by rw [← hget]; exact hm
   rcases obj h1 h2 hm' rfl with ⟨es0, ck0, es1, e1, _⟩ | ⟨r0, e1, e2, e3⟩
   ·cases e1
   ·cases e1
    obtain ⟨r', s1, s2⟩ := hR.hr.loop _ _ _ h2 e2
    exact ⟨r', s1, e3 _ s2⟩
  ·obtain ⟨a1, h1, h2⟩ := reN_some hx
   obtain ⟨b1, g1, g2⟩ := reN_some hy
   rcases hR.hr.disj _ _ _ _ h2 g2 hxy with q | ⟨f, f', q1, q2, q3⟩
   ·subst q; exact .inl (hok.inj _ _ _ h1 g1)
   ·-- rows of one block: what are they under the new numbers?
    have new : ∀ {j id : Nat} {x : Bx} {f : Fam}, L[j]? = some id → β id = some x → st.h.fam id = some f → ∃ f1, (⟨Tr.ofList os 0 .leaf, L.length, st.h.wr⟩ : AH).fam j = some f1 := by
     intro j id x f hj hb hf
     obtain ⟨o, ho1, ho2⟩ := og j id hj
     have hgn : (⟨Tr.ofList os 0 .leaf, L.length, st.h.wr⟩ : AH).t.get j = some o := by rw [← ho1]; exact hget j
     cases ho : o.flat with
     | true =>
      rcases obj hj hb ho1 ho with ⟨es0, ck0, es1, e1, e2, _⟩ | ⟨r0, e1, e2, _⟩
      ·exact (fam_not_map hf e2).elim
      ·exact (fam_not_loop hf e2).elim
     | false =>
      cases o with
      | row d c l ro n0 => exact ⟨_, fam_row hgn⟩
      | map => cases ho
      | loop => cases ho
      | alias r lo n =>
       rw [Nat.zero_add] at ho2
       unfold gcO at ho2
       split at ho2
       ·rename_i hc
        have hid : id = j := by have := hok.low j hc.1; rw [hj] at this; exact Option.some.inj this
        subst hid
        split at ho2
        ·rename_i r' lo' n' hg
         split at ho2
         case isFalse => cases ho2
         rename_i hrw
         cases ho2
         have hobj := hE.objs id (by omega) hc.2
         rw [hobj] at hg
         obtain ⟨d, c, l, ro, n0, hg2, _⟩ := hw0.ali _ _ _ _ hg
         have hrk : r < k := by rw [← hk]; exact hw0.lt _ _ hg2
         have hobj2 := hE.objs r (by omega) hrw
         obtain ⟨o2, hp1, hp2⟩ := og r r (hok.low r hrk)
         rw [Nat.zero_add] at hp2
         unfold gcO at hp2
         rw [if_pos ⟨hrk, hrw⟩, hobj2, hg2] at hp2
         cases hp2
         exact ⟨_, fam_alias hgn (by rw [← hp1]; exact hget r)⟩
        ·rename_i hna
         exact absurd ho2 (hna r lo n)
       ·split at ho2
        ·obtain ⟨es, _, h2⟩ := map_inv' ho2; cases h2
        ·split at ho2
         ·split at ho2
          ·obtain ⟨d', _, h2⟩ := map_inv' ho2; cases h2
          ·cases ho2
         ·split at ho2
          ·obtain ⟨d', _, h2⟩ := map_inv' ho2; cases h2
          ·obtain ⟨d', _, h2⟩ := map_inv' ho2; cases h2
        ·split at ho2
         ·cases ho2
         ·split at ho2
          ·split at ho2
           ·split at ho2
            ·obtain ⟨d', _, h2⟩ := map_inv' ho2; cases h2
            ·obtain ⟨d', _, h2⟩ := map_inv' ho2; cases h2
           ·cases ho2
          ·cases ho2
        ·cases ho2
    obtain ⟨f1, n1⟩ := new h1 h2 q1
    obtain ⟨f2, n2⟩ := new g1 g2 q2
    obtain ⟨f0, p1, p2⟩ := fam h1 n1
    rw [q1] at p1; cases p1
    obtain ⟨f0', p3, p4⟩ := fam g1 n2
    rw [q2] at p3; cases p3
    rcases q3 with ⟨q3, q4⟩ | ⟨q3, q4⟩
    ·by_cases hij : i = j
     ·exact .inl hij
     ·right
      refine ⟨f1, f2, n1, n2, .inl ⟨?_, q4⟩⟩
      have hrt : rootOf st.h a1 = rootOf st.h b1 := by rw [rootOf_eq q1, rootOf_eq q2]; exact q3
      have hik : i < k ∧ j < k := by
       rcases Nat.lt_or_gt_of_ne hij with g | g
       ·rcases Nat.lt_or_ge j k with r | r
        ·exact ⟨by omega, r⟩
        ·exact absurd hrt (hok.roots i j a1 b1 g r h1 g1)
       ·rcases Nat.lt_or_ge i k with r | r
        ·exact ⟨r, by omega⟩
        ·exact absurd hrt.symm (hok.roots j i b1 a1 g r g1 h1)
      rw [(p2.root.1 hik.1).1, (p4.root.1 hik.2).1]
      exact q3
    ·exact .inr ⟨f1, f2, n1, n2, .inr ⟨p2.ro q3, p4.ro q4⟩⟩
 have lt1 : ∀ {j : Nat} {o : AObj}, (Tr.ofList os 0 .leaf).get j = some o → j < L.length := by
  intro j o hj
  rw [hget] at hj
  have := (List.getElem?_eq_some_iff.1 hj).1
  omega
 have at1 : ∀ {j : Nat}, j < L.length → ∃ id, L[j]? = some id := fun hj => ⟨_, List.getElem?_eq_getElem hj⟩
 have famlt : ∀ {j : Nat} {f1 : Fam}, (⟨Tr.ofList os 0 .leaf, L.length, st.h.wr⟩ : AH).fam j = some f1 → j < L.length := by
  intro j f1 hf
  unfold AH.fam at hf
  cases hg : (Tr.ofList os 0 .leaf).get j with
  | none => simp only [hg] at hf; cases hf
  | some o => exact lt1 hg
 have wfn : ∀ {j : Nat} {f1 : Fam}, (⟨Tr.ofList os 0 .leaf, L.length, st.h.wr⟩ : AH).fam j = some f1 → f1.lo ≤ f1.n ∧ (j = f1.cur → f1.n = f1.data.length) ∧ (j ≠ f1.cur → min (lowAt f1.low j) f1.n ≤ f1.data.length) ∧ f1.cur < L.length := by
  intro j f1 hf
  obtain ⟨id, hid⟩ := at1 (famlt hf)
  obtain ⟨f, _, q⟩ := fam hid hf
  exact q.wf
 have ali : ∀ {j r lo n : Nat}, os[j]? = some (.alias r lo n) → j < k ∧ j < st.h.wr ∧ r < k ∧ r < st.h.wr ∧ h0.t.get j = some (.alias r lo n) ∧ os[r]? = h0.t.get r := by
  intro j r lo n ho
  obtain ⟨id, hid⟩ := at1 (lt1 (by rw [hget]; exact ho))
  obtain ⟨o, ho1, ho2⟩ := og j id hid
  rw [ho] at ho1
  cases ho1
  rw [Nat.zero_add] at ho2
  unfold gcO at ho2
  split at ho2
  ·rename_i hc
   have hid' : id = j := by have := hok.low j hc.1; rw [hid] at this; exact Option.some.inj this
   subst hid'
   have hobj := hE.objs id (by omega) hc.2
   split at ho2
   ·rename_i r' lo' n' hg
    split at ho2
    case isFalse => cases ho2
    rename_i hrw
    cases ho2
    rw [hobj] at hg
    obtain ⟨d, c, l, ro, n0, hg2, _⟩ := hw0.ali _ _ _ _ hg
    have hrk : r < k := by rw [← hk]; exact hw0.lt _ _ hg2
    have hobj2 := hE.objs r (by omega) hrw
    obtain ⟨o2, hp1, hp2⟩ := og r r (hok.low r hrk)
    rw [Nat.zero_add] at hp2
    unfold gcO at hp2
    rw [if_pos ⟨hrk, hrw⟩, hobj2, hg2] at hp2
    cases hp2
    exact ⟨hc.1, hc.2, hrk, hrw, hg, by rw [hp1, hg2]⟩
   ·rename_i hna
    exact absurd ho2 (hna r lo n)
  ·split at ho2
   ·obtain ⟨es, _, h2⟩ := map_inv' ho2; cases h2
   ·split at ho2
    ·split at ho2
     ·obtain ⟨d', _, h2⟩ := map_inv' ho2; cases h2
     ·cases ho2
    ·split at ho2
     ·obtain ⟨d', _, h2⟩ := map_inv' ho2; cases h2
     ·obtain ⟨d', _, h2⟩ := map_inv' ho2; cases h2
   ·split at ho2
    ·cases ho2
    ·split at ho2
     ·split at ho2
      ·split at ho2
       ·obtain ⟨d', _, h2⟩ := map_inv' ho2; cases h2
       ·obtain ⟨d', _, h2⟩ := map_inv' ho2; cases h2
      ·cases ho2
     ·cases ho2
   ·cases ho2
 have wf : Wf (⟨Tr.ofList os 0 .leaf, L.length, st.h.wr⟩ : AH) := by
  refine ⟨fun j o hj => lt1 hj, fun j f hf => (wfn hf).1, fun j f hf => (wfn hf).2.1, fun j f hf => (wfn hf).2.2.1, fun j f hf => (wfn hf).2.2.2, fun j r lo n hj => ?_⟩
  obtain ⟨_, _, hr, _, h2, h3⟩ := ali (by rw [← hget]; exact hj)
  obtain ⟨d, c, l, ro, n0, hg2, hne⟩ := hw0.ali _ _ _ _ h2
  exact ⟨d, c, l, ro, n0, by show (Tr.ofList os 0 .leaf).get r = _; rw [hget, h3, hg2], hne⟩
 -- the old names' rows
 have old : ∀ id, id < k → rootOf (⟨Tr.ofList os 0 .leaf, L.length, st.h.wr⟩ : AH) id = rootOf h0 id ∧ roOf (⟨Tr.ofList os 0 .leaf, L.length, st.h.wr⟩ : AH) id = roOf h0 id := by
  intro id hid
  rw [← hE.root id (by omega), ← hE.ro id (by omega)]
  cases hf : (⟨Tr.ofList os 0 .leaf, L.length, st.h.wr⟩ : AH).fam id with
  | some f1 =>
   obtain ⟨f, q1, q2⟩ := fam (hok.low id hid) hf
   unfold rootOf roOf
   rw [hf, q1]
   exact q2.root.1 hid
  | none =>
   have : st.h.fam id = none := by
    cases hf2 : st.h.fam id with
    | none => rfl
    | some f =>
     exfalso
     obtain ⟨o, ho1, ho2⟩ := og id id (hok.low id hid)
     have hgn : (⟨Tr.ofList os 0 .leaf, L.length, st.h.wr⟩ : AH).t.get id = some o := by rw [← ho1]; exact hget id
     cases o with
     | row => rw [fam_row hgn] at hf; cases hf
     | alias r lo n =>
      obtain ⟨_, _, hr, _, h2, h3⟩ := ali ho1
      obtain ⟨d, c, l, ro, n0, hg2, hne⟩ := hw0.ali _ _ _ _ h2
      rw [fam_alias hgn (by show (Tr.ofList os 0 .leaf).get r = _; rw [hget, h3, hg2])] at hf
      cases hf
     | map es ck =>
      rw [Nat.zero_add] at ho2
      exact flat_gcO ho2 rfl hf2
     | loop r =>
      rw [Nat.zero_add] at ho2
      exact flat_gcO ho2 rfl hf2
   unfold rootOf roOf
   rw [hf, this]
   exact ⟨rfl, rfl⟩
 have evo : Evo β0 h0 w0 (reN L β) (⟨Tr.ofList os 0 .leaf, L.length, st.h.wr⟩ : AH) w := {
  sub := fun id x hx => by
   have := (hr0.dom id x hx).1
   rw [reN_low hok (by omega)]
   exact hE.sub id x hx
  new := fun j x hx hn => by
   obtain ⟨id, h1, h2⟩ := reN_some hx
   rcases Nat.lt_or_ge j k with q | q
   ·have hid : id = j := by have := hok.low j q; rw [h1] at this; exact Option.some.inj this
    subst hid
    exact hE.new id x h2 hn
   ·omega
  all := fun j h1 h2 => by
   obtain ⟨id, hid⟩ := at1 h2
   rw [reN_at hid]
   obtain ⟨q1, q2⟩ := hok.high j id (by omega) hid
   exact hE.all id (by omega) q2
  blk := fun j x hx hn => by
   obtain ⟨id, h1, h2⟩ := reN_some hx
   refine hE.blk id x h2 ?_
   rcases Nat.lt_or_ge j k with q | q
   ·have hid : id = j := by have := hok.low j q; rw [h1] at this; exact Option.some.inj this
    subst hid
    exact hn
   ·exact hr0.none_next (by have := (hok.high j id q h1).1; omega)
  size := hE.size
  os := hE.os
  tape := hE.tape
  output := hE.output
  frame := hE.frame
  next := by have := hok.kl; simp only; omega
  wr := hE.wr
  root := fun id hid => (old id (by omega)).1
  ro := fun id hid => (old id (by omega)).2
  objs := fun id hid hw => by
   show (Tr.ofList os 0 .leaf).get id = _
   have hobj := hE.objs id hid hw
   rw [hget]
   obtain ⟨o, ho1, ho2⟩ := og id id (hok.low id (by omega))
   rw [Nat.zero_add] at ho2
   unfold gcO at ho2
   rw [if_pos ⟨by omega, hw⟩] at ho2
   rw [ho1, ← hobj]
   split at ho2
   ·rename_i hg
    split at ho2
    ·rw [hg]; exact ho2.symm
    ·cases ho2
   ·exact ho2.symm }
 refine ⟨reN L β, ⟨heap, wf, gcE_sound hpos hR.he he, hR.sz, ?_⟩, evo⟩
 obtain ⟨bs, b1, b2, b3⟩ := hR.hd.ex
 refine ⟨bs, b1, b2, fun b hb => ⟨(b3 b hb).1, (b3 b hb).2.lt, (b3 b hb).2.at_, fun j x hx hxb => ?_⟩⟩
 obtain ⟨id, _, h2⟩ := reN_some hx
 exact (b3 b hb).2.no id x h2 hxb
end
end Go.AM
namespace Go.AM
def Tri (P : Program) (h0 : AH) (c : Code) (st : St) (Q : Ex → St → Prop) : Prop :=
 ∀ (F : Fence) (m : Nat) (β0 : Ren) (w0 : World), Open F → F.round = none → HR β0 h0 w0 → Wf h0 →
  ∀ (β : Ren) (a : Act) (w : World) (Q' : Exit → Act → World → Prop), Rst w0.heap.size β st a w → Evo β0 h0 w0 β st.h w →
   (∀ ex st' β' a' w', Q ex st' → Rst w0.heap.size β' st' a' w' → Evo β0 h0 w0 β' st'.h w' → Q' ex.to a' w') → c.wpIn F m P Q' a w
structure Fit (P : Program) : Prop where
 named : Named P
 mix : P.follows .mixedOrders = true
def Ex.then (R : St → Prop) (Q : Ex → St → Prop) : Ex → St → Prop
 | .normal, s => R s
 | e, s => Q e s
def Ex.out (id : Nat) (Q : Ex → St → Prop) : Ex → St → Prop
 | .exit i, s => if i = id then Q .normal s else Q (.exit i) s
 | e, s => Q e s
section
variable {P : Program} {h0 : AH} {c x y b : Code} {st s st0 : St} {Q Q2 : Ex → St → Prop} {call : Call'} {n : Nat} {ex : Ex}
theorem Tri.mono (h : Tri P h0 c st Q) (hq : ∀ ex s, Q ex s → Q2 ex s) : Tri P h0 c st Q2 :=
 fun F m β0 w0 hF hro hr0 hw0 β a w Q' hR hE hQ => h F m β0 w0 hF hro hr0 hw0 β a w Q' hR hE fun ex st' β' a' w' q => hQ ex st' β' a' w' (hq ex st' q)
theorem tri_exec (hP : Fit P) (hcall : CallSound P call) (he : exec P call false n c st = some (ex, s)) (hq : Q ex s) : Tri P h0 c st Q := by
 intro F m β0 w0 hF hro hr0 hw0 β a w Q' hR hE hQ
 exact (exec_sound false hP.named hP.mix hcall n).1 F m w0.heap.size c st ex s β a w Q' hF (fun _ => hro) hE.size he hR fun a' w' β' hR' hE' => hQ ex s β' a' w' hq hR' (hE.trans hr0 hE')
theorem tri_seq (h : Tri P h0 x st (Ex.then (fun s => Tri P h0 y s Q) Q)) : Tri P h0 (.seq x y) st Q := by
 intro F m β0 w0 hF hro hr0 hw0 β a w Q' hR hE hQ
 refine wpIn_seq (h F m β0 w0 hF hro hr0 hw0 β a w _ hR hE fun ex st' β' a' w' hq hR' hE' => ?_)
 cases ex with
 | normal => exact hq F m β0 w0 hF hro hr0 hw0 β' a' w' Q' hR' hE' hQ
 | exit id => exact hQ _ st' β' a' w' hq hR' hE'
 | ret => exact hQ _ st' β' a' w' hq hR' hE'
theorem tri_cond {o : Operand} {q : Bool} (hc : ev st.e o = some (.bool q)) (h : Tri P h0 (if q then x else y) st Q) : Tri P h0 (.cond o x y) st Q := by
 intro F m β0 w0 hF hro hr0 hw0 β a w Q' hR hE hQ
 exact wpIn_cond ((ev_sound hR.he hc).free0_eq rfl) (h F m β0 w0 hF hro hr0 hw0 β a w Q' hR hE hQ)
theorem tri_block {id : Nat} (h : Tri P h0 b st (Ex.out id Q)) : Tri P h0 (.block id b) st Q := by
 intro F m β0 w0 hF hro hr0 hw0 β a w Q' hR hE hQ
 refine wpIn_block (h F m β0 w0 hF hro hr0 hw0 β a w _ hR hE fun ex st' β' a' w' hq hR' hE' => ?_)
 cases ex with
 | normal => exact hQ _ st' β' a' w' hq hR' hE'
 | exit i =>
  show if i = id then Q' .normal a' w' else Q' (.exit i) a' w'
  unfold Ex.out at hq
  simp only at hq
  split at hq
  ·rename_i hi; rw [if_pos hi]; exact hQ .normal st' β' a' w' hq hR' hE'
  ·rename_i hi; rw [if_neg hi]; exact hQ (.exit i) st' β' a' w' hq hR' hE'
 | ret => exact hQ _ st' β' a' w' hq hR' hE'
theorem tri_skip (h : Q .normal st) : Tri P h0 .skip st Q := fun _ _ _ _ _ _ _ _ β a w _ hR hE hQ => wpIn_skip (hQ .normal st β a w h hR hE)
theorem tri_exit {id : Nat} (h : Q (.exit id) st) : Tri P h0 (.exit id) st Q := fun _ _ _ _ _ _ _ _ β a w _ hR hE hQ => wpIn_exit (hQ (.exit id) st β a w h hR hE)
theorem tri_ret (h : Q .ret st) : Tri P h0 .ret st Q := fun _ _ _ _ _ _ _ _ β a w _ hR hE hQ => wpIn_ret (hQ .ret st β a w h hR hE)
end
end Go.AM
namespace Go.AM
def mkE : List Nat → List Value → Tr Value
 | t :: ts, v :: vs => (mkE ts vs).set t v
 | _, _ => .leaf
def cst (sz : Nat) (slots : List Nat) (vals : List Value) (os : List AObj) (wr : Nat) : St := ⟨mkE slots vals, sz, ⟨Tr.ofList os 0 .leaf, os.length, wr⟩⟩
def gcVs (pos : Nat → Option Nat) (e : Tr Value) : List Nat → Option (List Value)
 | [] => some []
 | t :: r =>
  match e.get t, gcVs pos e r with
  | some v, some vs => (gcV pos 9 v).map (· :: vs)
  | _, _ => none
inductive Frm where
 | seq (y : Code)
 | block (id : Nat)
 | loop (R : St → Prop)
def post (P : Program) (h0 : AH) : List Frm → (Ex → St → Prop) → (Ex → St → Prop)
 | [], Q => Q
 | .seq y :: fr, Q => Ex.then (fun s => Tri P h0 y s (post P h0 fr Q)) (post P h0 fr Q)
 | .block id :: fr, Q => Ex.out id (post P h0 fr Q)
 | .loop R :: fr, Q => Ex.then R (post P h0 fr Q)
def TriK (P : Program) (h0 : AH) (c : Code) (fr : List Frm) (st : St) (Q : Ex → St → Prop) : Prop := Tri P h0 c st (post P h0 fr Q)
def OpsK (P : Program) (call : Call') (ops : Array Oper) (l : List Oper) (st : St) (K : St → Prop) : Prop := ∃ s, runOps P call ops l st = some s ∧ K s
def DrawK (P : Program) (call : Call') (ops : Array Oper) (l : List Oper) (st : St) (acc : List Inf) (K : St → List Inf → Prop) : Prop := ∃ s infs, drawGo P call ops l st = some (s, infs) ∧ K s (acc ++ infs)
def infOf (e : Tr Value) (t : Tr AObj) (nx : Nat) (op : Op) (nx' wr' : Nat) : Inf :=
 ⟨floats op && nx' == nx && (match readId e op with | none => true | some id => decide (max id (rootOf ⟨t, nx, 0⟩ id) < nx)), (readId e op).map fun id => max id (rootOf ⟨t, nx, 0⟩ id), decide (nx ≤ wr'), wr'⟩
section
variable {P : Program} {call : Call'} {ops : Array Oper} {o : Oper} {rest : List Oper} {e : Tr Value} {n : Nat} {h h' : AH} {K : St → Prop} {KD : St → List Inf → Prop} {v : Value} {d : Nat} {acc : List Inf}
 {t t' : Tr AObj} {nx nx' wr wr' : Nat}
theorem o_step (hw : wantedA ops e o = some true) (hd : o.dst = some d) (hx : doOp P call e h o = some (v, h')) (hlt : d < n) (k : OpsK P call ops rest ⟨e.set d v, n, h'⟩ K) :
  OpsK P call ops (o :: rest) ⟨e, n, h⟩ K := by
 obtain ⟨s, h1, h2⟩ := k
 refine ⟨s, ?_, h2⟩
 simp only [runOps, step1, hw, hx, hd, putE, if_pos hlt, Option.map_some, h1]
theorem o_stepN (hw : wantedA ops e o = some true) (hd : o.dst = none) (hx : doOp P call e h o = some (v, h')) (k : OpsK P call ops rest ⟨e, n, h'⟩ K) :
  OpsK P call ops (o :: rest) ⟨e, n, h⟩ K := by
 obtain ⟨s, h1, h2⟩ := k
 refine ⟨s, ?_, h2⟩
 simp only [runOps, step1, hw, hx, hd, putE, Option.map_some, h1]
theorem o_skip (hw : wantedA ops e o = some false) (hd : o.dst = some d) (hlt : d < n) (k : OpsK P call ops rest ⟨e.set d undef, n, h⟩ K) :
  OpsK P call ops (o :: rest) ⟨e, n, h⟩ K := by
 obtain ⟨s, h1, h2⟩ := k
 refine ⟨s, ?_, h2⟩
 simp only [runOps, step1, hw, hd, putE, if_pos hlt, Option.map_some, h1]
theorem o_done {st : St} (k : K st) : OpsK P call ops [] st K := ⟨_, rfl, k⟩
theorem d_step (hw : wantedA ops e o = some true) (hd : o.dst = some d) (hx : doOp P call e ⟨t, nx, BIG⟩ o = some (v, ⟨t', nx', wr'⟩)) (hlt : d < n)
  (k : DrawK P call ops rest ⟨e.set d v, n, ⟨t', nx', min wr wr'⟩⟩ (acc ++ [infOf e t nx o.op nx' wr']) KD) : DrawK P call ops (o :: rest) ⟨e, n, ⟨t, nx, wr⟩⟩ acc KD := by
 obtain ⟨s, infs, h1, h2⟩ := k
 refine ⟨s, _, ?_, by rw [List.append_assoc] at h2; exact h2⟩
 simp only [drawGo, draw1, hw, hx, hd, putE, if_pos hlt, Option.map_some, h1]
 rfl
theorem d_stepN (hw : wantedA ops e o = some true) (hd : o.dst = none) (hx : doOp P call e ⟨t, nx, BIG⟩ o = some (v, ⟨t', nx', wr'⟩))
  (k : DrawK P call ops rest ⟨e, n, ⟨t', nx', min wr wr'⟩⟩ (acc ++ [infOf e t nx o.op nx' wr']) KD) : DrawK P call ops (o :: rest) ⟨e, n, ⟨t, nx, wr⟩⟩ acc KD := by
 obtain ⟨s, infs, h1, h2⟩ := k
 refine ⟨s, _, ?_, by rw [List.append_assoc] at h2; exact h2⟩
 simp only [drawGo, draw1, hw, hx, hd, putE, Option.map_some, h1]
 rfl
theorem d_skip (hw : wantedA ops e o = some false) (hd : o.dst = some d) (hlt : d < n) (k : DrawK P call ops rest ⟨e.set d undef, n, h⟩ (acc ++ [⟨true, none, true, BIG⟩]) KD) :
  DrawK P call ops (o :: rest) ⟨e, n, h⟩ acc KD := by
 obtain ⟨s, infs, h1, h2⟩ := k
 refine ⟨s, _, ?_, by rw [List.append_assoc] at h2; exact h2⟩
 simp only [drawGo, draw1, hw, hd, putE, if_pos hlt, Option.map_some, h1]
 rfl
theorem d_done {st : St} (k : KD st acc) : DrawK P call ops [] st acc KD := ⟨_, [], rfl, by rw [List.append_nil]; exact k⟩
end
section
variable {P : Program} {h0 : AH} {c x y b : Code} {st s st0 : St} {Q : Ex → St → Prop} {call : Call'} {fr : List Frm} {ops : Array Oper} {id id' i : Nat}
def EndK (P : Program) (h0 : AH) (fr : List Frm) (ex : Ex) (s : St) (Q : Ex → St → Prop) : Prop := post P h0 fr Q ex s
theorem e_seq (k : TriK P h0 y fr s Q) : EndK P h0 (.seq y :: fr) .normal s Q := k
theorem e_seq_exit (k : EndK P h0 fr (.exit i) s Q) : EndK P h0 (.seq y :: fr) (.exit i) s Q := k
theorem e_seq_ret (k : EndK P h0 fr .ret s Q) : EndK P h0 (.seq y :: fr) .ret s Q := k
theorem e_block (k : EndK P h0 fr .normal s Q) : EndK P h0 (.block id :: fr) .normal s Q := k
theorem e_block_eq (k : EndK P h0 fr .normal s Q) : EndK P h0 (.block id :: fr) (.exit id) s Q := by
 show Ex.out id (post P h0 fr Q) (.exit id) s
 unfold Ex.out
 simp only [if_true]
 exact k
theorem e_block_ne (hne : i ≠ id) (k : EndK P h0 fr (.exit i) s Q) : EndK P h0 (.block id :: fr) (.exit i) s Q := by
 show Ex.out id (post P h0 fr Q) (.exit i) s
 unfold Ex.out
 simp only [if_neg hne]
 exact k
theorem e_block_ret (k : EndK P h0 fr .ret s Q) : EndK P h0 (.block id :: fr) .ret s Q := k
theorem e_loop {R : St → Prop} (k : R s) : EndK P h0 (.loop R :: fr) .normal s Q := k
theorem e_loop_exit {R : St → Prop} (k : EndK P h0 fr (.exit i) s Q) : EndK P h0 (.loop R :: fr) (.exit i) s Q := k
theorem e_loop_ret {R : St → Prop} (k : EndK P h0 fr .ret s Q) : EndK P h0 (.loop R :: fr) .ret s Q := k
theorem k_seq (k : TriK P h0 x (.seq y :: fr) st Q) : TriK P h0 (.seq x y) fr st Q := tri_seq k
theorem k_block (k : TriK P h0 b (.block id :: fr) st Q) : TriK P h0 (.block id b) fr st Q := tri_block k
theorem k_region (hP : Fit P) (hcall : CallSound P call) (k : OpsK P call ops ops.toList st fun s => EndK P h0 fr .normal s Q) : TriK P h0 (.region i ops false) fr st Q := by
 obtain ⟨s, h1, h2⟩ := k
 have he : exec P call false 1 (.region i ops false) st = some (.normal, s) := by
  simp only [exec]
  rw [if_neg (by decide), h1]
  rfl
 exact tri_exec hP hcall he h2
def DrawEnd (P : Program) (h0 : AH) (ops : Array Oper) (fr : List Frm) (wr : Nat) (Q : Ex → St → Prop) (s : St) (infs : List Inf) : Prop :=
 (tailOk (Region.before ops) (least infs) infs && decide (s.h.next ≤ BIG) && decide (wr ≤ BIG)) = true ∧ EndK P h0 fr .normal s Q
theorem k_draw (hP : Fit P) (hcall : CallSound P call) (hok : drawOk ops = true) (k : DrawK P call ops ops.toList st [] (DrawEnd P h0 ops fr st.h.wr Q)) : TriK P h0 (.region i ops true) fr st Q := by
 obtain ⟨s, infs, h1, h2, h3⟩ := k
 rw [List.nil_append] at h2
 have he : exec P call false 1 (.region i ops true) st = some (.normal, s) := by
  simp only [exec, if_true, runDraw, if_pos hok, h1, if_pos h2]
  rfl
 exact tri_exec hP hcall he h3
theorem k_cond {o : Operand} {q : Bool} (hc : ev st.e o = some (.bool q)) (h1 : q = true → TriK P h0 x fr st Q) (h2 : q = false → TriK P h0 y fr st Q) : TriK P h0 (.cond o x y) fr st Q := by
 refine tri_cond hc ?_
 cases q with
 | true => exact h1 rfl
 | false => exact h2 rfl
theorem k_skip (k : EndK P h0 fr .normal st Q) : TriK P h0 .skip fr st Q := tri_skip k
theorem k_exit (k : EndK P h0 fr (.exit i) st Q) : TriK P h0 (.exit i) fr st Q := tri_exit k
theorem k_ret (k : EndK P h0 fr .ret st Q) : TriK P h0 .ret fr st Q := tri_ret k
theorem Evo.lower {β0 β : Ren} {w0 w : World} {t : Tr AObj} {nx wr wr' : Nat} (hE : Evo β0 h0 w0 β ⟨t, nx, wr⟩ w) (hw : wr' ≤ wr) : Evo β0 h0 w0 β ⟨t, nx, wr'⟩ w where
 sub := hE.sub
 new := hE.new
 all := hE.all
 blk := fun id x a b => (hE.blk id x a b).imp (fun k => k) fun ⟨i0, x0, k1, k2, k3, k4⟩ => ⟨i0, x0, k1, k2, Nat.le_trans hw k3, k4⟩
 size := hE.size
 os := hE.os
 tape := hE.tape
 output := hE.output
 frame := fun b hb => (hE.frame b hb).imp (fun k => k) fun ⟨i0, x0, k1, k2, k3, k4⟩ => ⟨i0, x0, k1, k2, Nat.le_trans hw k3, k4⟩
 next := hE.next
 wr := Nat.le_trans hw hE.wr
 root := hE.root
 ro := hE.ro
 objs := fun id a b => hE.objs id a (Nat.lt_of_lt_of_le b hw)
theorem HR.wr {β : Ren} {w : World} {t : Tr AObj} {nx wr wr' : Nat} (h : HR β ⟨t, nx, wr⟩ w) : HR β ⟨t, nx, wr'⟩ w := ⟨h.dom, h.row, h.map, h.loop, h.disj⟩
theorem Wf.wr {t : Tr AObj} {nx wr wr' : Nat} (h : Wf ⟨t, nx, wr⟩) : Wf ⟨t, nx, wr'⟩ := ⟨h.lt, h.lon, h.curn, h.stale, h.cur, h.ali⟩
theorem gcE_mk {pos : Nat → Option Nat} {e : Tr Value} : ∀ {slots : List Nat} {vals : List Value}, gcVs pos e slots = some vals → gcE pos e slots = some (mkE slots vals)
 | [], vals, _ => by cases vals <;> rfl
 | t :: r, vals, h => by
  simp only [gcVs] at h
  split at h
  case h_2 => cases h
  rename_i v vs h1 h2
  obtain ⟨u, h3, h4⟩ := map_inv' h
  subst h4
  simp only [gcE, h1, gcE_mk h2, h3]
  rfl
theorem k_gc {L slots : List Nat} {vals : List Value} {os : List AObj} {w : Nat} (hok : gcOk h0.next st.h L = true) (hv : gcVs (posOf L) st.e slots = some vals) (ho : gcH h0.next (posOf L) st.h 0 L = some os) (hw : Nat.ble w st.h.wr = true)
  (k : TriK P h0 c fr (cst st.sz slots vals os w) Q) : TriK P h0 c fr st Q := by
 have hg : gc h0.next L slots st = some ⟨mkE slots vals, st.sz, ⟨Tr.ofList os 0 .leaf, L.length, st.h.wr⟩⟩ := by
  unfold gc
  rw [if_pos hok, gcE_mk hv, ho]
 have hl : os.length = L.length := (gcH_some ho).1
 intro F m β0 w0 hF hro hr0 hw0 β a w' Q' hR hE hQ
 obtain ⟨β1, hR1, hE1⟩ := gc_sound hg rfl hr0 hw0 hR hE
 rw [← hl] at hR1 hE1
 exact k F m β0 w0 hF hro hr0 hw0 β1 a w' Q' ⟨hR1.hr.wr, hR1.hw.wr, hR1.he, hR1.sz, hR1.hd⟩ (hE1.lower (Nat.le_of_ble_eq_true hw)) hQ
def To (h0 : AH) (s s0 : St) : Prop := ∃ L slots vals os w, gcOk h0.next s.h L = true ∧ gcVs (posOf L) s.e slots = some vals ∧ gcH h0.next (posOf L) s.h 0 L = some os ∧ Nat.ble w s.h.wr = true ∧ cst s.sz slots vals os w = s0
theorem tri_to (ht : To h0 st st0) (h : Tri P h0 c st0 Q) : Tri P h0 c st Q := by
 obtain ⟨L, slots, vals, os, w, h1, h2, h3, h4, rfl⟩ := ht
 exact k_gc (fr := []) h1 h2 h3 h4 h
theorem k_loop {α : Type} (I : α → St) (V : α → Prop) (μ : α → Nat) (z0 : α) (hst : To h0 st (I z0)) (hv : V z0)
  (round : ∀ z, V z → TriK P h0 b (.loop (fun s => ∃ z', To h0 s (I z') ∧ V z' ∧ μ z' < μ z) :: fr) (I z) Q) : TriK P h0 (.loop b) fr st Q := by
 refine tri_to hst ?_
 intro F m β0 w0 hF hro hr0 hw0 β a w Q' hR hE hQ
 have key : ∀ N z β a w, μ z < N → V z → Rst w0.heap.size β (I z) a w → Evo β0 h0 w0 β (I z).h w → Code.roundsIn F m P b Q' N a w := by
  intro N
  induction N with
  | zero => intro z β a w hz; omega
  | succ N ih =>
   intro z β a w hz hvz hR hE
   rw [roundsIn_succ]
   refine round z hvz F m β0 w0 hF hro hr0 hw0 β a w _ hR hE fun ex st' β' a' w' hq hR' hE' => ?_
   cases ex with
   | normal =>
    obtain ⟨z', ⟨L, slots, vals, os, wl, h1, h2, h3, h4, h5⟩, k2, k3⟩ := hq
    have hg : gc h0.next L slots st' = some ⟨mkE slots vals, st'.sz, ⟨Tr.ofList os 0 .leaf, L.length, st'.h.wr⟩⟩ := by
     unfold gc
     rw [if_pos h1, gcE_mk h2, h3]
    have hl : os.length = L.length := (gcH_some h3).1
    obtain ⟨β1, hR1, hE1⟩ := gc_sound hg rfl hr0 hw0 hR' hE'
    rw [← hl] at hR1 hE1
    refine ih z' β1 a' w' (by omega) k2 ?_ ?_
    ·rw [← h5]; exact ⟨hR1.hr.wr, hR1.hw.wr, hR1.he, hR1.sz, hR1.hd⟩
    ·rw [← h5]; exact hE1.lower (Nat.le_of_ble_eq_true h4)
   | exit id => exact hQ _ st' β' a' w' hq hR' hE'
   | ret => exact hQ _ st' β' a' w' hq hR' hE'
 exact wpIn_loop_rounds (μ z0 + 1) (key (μ z0 + 1) z0 β a w (by omega) hv hR hE)
def Gives' (P : Program) (fn : Func) (h : AH) (v : Value) (h' : AH) : Ex → St → Prop :=
 fun ex s => (∃ L slots vals os w vs, (ex = .normal ∨ ex = .ret) ∧ gcOk h.next s.h L = true ∧ gcVs (posOf L) s.e slots = some vals ∧ gcH h.next (posOf L) s.h 0 L = some os ∧ Nat.ble w s.h.wr = true ∧
  resA P (cst s.sz slots vals os w) fn.results.toList = some vs ∧ one vs = v ∧ ⟨Tr.ofList os 0 .leaf, os.length, w⟩ = h') ∨
  (∃ L os w vs, (ex = .normal ∨ ex = .ret) ∧ gcOk h.next s.h L = true ∧ resA P s fn.results.toList = some vs ∧ gcV (posOf L) 9 (one vs) = some v ∧ gcH h.next (posOf L) s.h 0 L = some os ∧ Nat.ble w s.h.wr = true ∧ ⟨Tr.ofList os 0 .leaf, os.length, w⟩ = h')
theorem meets_of_triK (hP : Fit P) {f : FuncId} {fn : Func} (hfn : P.funcs[f]? = some fn) (hb : fn.body = some c) {args : List Value} {h h' : AH} {v : Value}
  (ht : TriK P h c [] ⟨Tr.ofList args 0 .leaf, max args.length fn.ntmps, h⟩ (Gives' P fn h v h')) : Meets P (.func f) args h v h' := by
 have _ := hP
 intro F m β w args' hF hr hw hargs
 show CallsIn F m P f ⟨args'⟩ w _
 have key : CallsIn F.plain m P f ⟨args'⟩ w (Ends' β h w v h') := by
  refine callsIn_of_wp_marks hfn hb (hF.fn f) ?_ rfl
  obtain ⟨i1, i2⟩ := init_sound hargs fn.ntmps
  have hR0 : Rst w.heap.size β ⟨Tr.ofList args 0 .leaf, max args.length fn.ntmps, h⟩ { tmps := (⟨args'⟩ : Array Value) ++ Array.replicate (fn.ntmps - (⟨args'⟩ : Array Value).size) undef, defers := [] } w :=
   ⟨hr, hw, i1, i2, .nil⟩
  refine ht F.plain m β w hF.plain rfl hr hw β _ w _ hR0 (.refl _ _ _) fun ex s β' a' w' hq hR hE => ?_
  rcases hq with ⟨L, slots, vals, os, wl, vs, hex, h1, h2, h3, h4, g2, g3, g4⟩ | ⟨L, os, wl, vs, hex, h1, g2, g3, h3, h4, g4⟩
  case inr =>
   have hgoal : LeavesInM F.plain m P fn a'.tmps (Ends' β h w v h') a'.defers .returning w' := by
    obtain ⟨bs, b1, b2, b3⟩ := hR.hd.ex
    rw [b1]
    refine leaves_sound bs w' b2 b3 hR.hr hE fun w'' hr'' hE'' => ?_
    obtain ⟨v', k1, k2⟩ := results_sound hr'' hR.hw hR.he g2
    have hR2 : Rst w''.heap.size β' ⟨s.e.set s.sz (one vs), s.sz + 1, s.h⟩ { tmps := a'.tmps.push v', defers := [] } w'' := by
     refine ⟨hr'', hR.hw, ?_, by simp [hR.sz], .nil⟩
     intro t u hu
     rw [Tr.get_set] at hu
     split at hu
     ·rename_i ht
      cases hu
      refine ⟨v', ?_, k2⟩
      rw [ht, ← hR.sz, Array.getElem?_push_size]
     ·rename_i ht
      obtain ⟨u', q1, q2⟩ := hR.he t u hu
      refine ⟨u', ?_, q2⟩
      have hlt : t < a'.tmps.size := (Array.getElem?_eq_some_iff.1 q1).1
      rw [Array.getElem?_push_lt hlt]
      exact (Array.getElem?_eq_getElem hlt).symm.trans q1
    have hg : gc h.next L [s.sz] ⟨s.e.set s.sz (one vs), s.sz + 1, s.h⟩ = some ⟨mkE [s.sz] [v], s.sz + 1, ⟨Tr.ofList os 0 .leaf, L.length, s.h.wr⟩⟩ := by
     have hvs : gcVs (posOf L) (s.e.set s.sz (one vs)) [s.sz] = some [v] := by
      simp only [gcVs, Tr.get_set_eq, g3, Option.map_some]
     unfold gc
     rw [if_pos h1, gcE_mk hvs, h3]
    have hl : os.length = L.length := (gcH_some h3).1
    obtain ⟨β1, hR1', hE1'⟩ := gc_sound hg rfl hr hw hR2 hE''
    rw [← hl] at hR1' hE1'
    subst g4
    have he1 := hR1'.he s.sz v (by
     show (mkE [s.sz] [v]).get s.sz = some v
     simp only [mkE, Tr.get_set_eq])
    obtain ⟨v2, p1, p2⟩ := he1
    have hv2 : v2 = v' := by
     have : (a'.tmps.push v')[s.sz]? = some v2 := p1
     rw [← hR.sz, Array.getElem?_push_size] at this
     exact (Option.some.inj this).symm
    subst hv2
    exact ⟨v2, k1, v2, β1, rfl, p2, hR1'.hr.wr, hR1'.hw.wr, hE1'.lower (Nat.le_of_ble_eq_true h4)⟩
   rcases hex with rfl | rfl
   ·exact hgoal
   ·exact hgoal
  have hg : gc h.next L slots s = some ⟨mkE slots vals, s.sz, ⟨Tr.ofList os 0 .leaf, L.length, s.h.wr⟩⟩ := by
   unfold gc
   rw [if_pos h1, gcE_mk h2, h3]
  have hl : os.length = L.length := (gcH_some h3).1
  obtain ⟨β1, hR1', hE1'⟩ := gc_sound hg rfl hr hw hR hE
  rw [← hl] at hR1' hE1'
  have hR1 : Rst w.heap.size β1 (cst s.sz slots vals os wl) a' w' := ⟨hR1'.hr.wr, hR1'.hw.wr, hR1'.he, hR1'.sz, hR1'.hd⟩
  have hE1 : Evo β h w β1 (cst s.sz slots vals os wl).h w' := hE1'.lower (Nat.le_of_ble_eq_true h4)
  have hgoal : LeavesInM F.plain m P fn a'.tmps (Ends' β h w v h') a'.defers .returning w' := by
   obtain ⟨bs, b1, b2, b3⟩ := hR1.hd.ex
   rw [b1]
   refine leaves_sound bs w' b2 b3 hR1.hr hE1 fun w'' hr'' hE'' => ?_
   obtain ⟨v', k1, k2⟩ := results_sound hr'' hR1.hw hR1.he g2
   subst g3; subst g4
   exact ⟨v', k1, v', β1, rfl, k2, hr'', hR1.hw, hE''⟩
  rcases hex with rfl | rfl
  ·exact hgoal
  ·exact hgoal
 exact key
end
end Go.AM
namespace Go.AM
inductive Lk where
 | bool
 | int (k : IntKind)
 | str
 deriving DecidableEq
def Lk.ok : Lk → Value → Bool
 | .bool, .bool _ => true
 | .int k, .int k' _ => decide (k = k')
 | .str, .string _ => true
 | _, _ => false
def cf : List Lk → List Value → Bool
 | [], [] => true
 | k :: ks, v :: vs => k.ok v && cf ks vs
 | _, _ => false
theorem Lk.ok_free {k : Lk} {v : Value} (h : k.ok v = true) : free0 v = true := by
 cases k <;> cases v <;> first | rfl | cases h
theorem cf_len : ∀ {ks : List Lk} {vs : List Value}, cf ks vs = true → vs.length = ks.length
 | [], [], _ => rfl
 | [], _ :: _, h => by cases h
 | _ :: _, [], h => by cases h
 | k :: ks, v :: vs, h => by
  simp only [cf, Bool.and_eq_true] at h
  simp only [List.length_cons, cf_len h.2]
theorem cf_free0 : ∀ {ks : List Lk} {vs : List Value}, cf ks vs = true → vs.all free0 = true
 | [], [], _ => rfl
 | [], _ :: _, h => by cases h
 | _ :: _, [], h => by cases h
 | k :: ks, v :: vs, h => by
  simp only [cf, Bool.and_eq_true] at h
  simp only [List.all_cons, Lk.ok_free h.1, cf_free0 h.2, Bool.and_self]
theorem all_free1 {vs : List Value} (h : vs.all free0 = true) : vs.all free1 = true := by
 rw [List.all_eq_true] at h ⊢
 exact fun v hv => free0_free1 (h v hv)
theorem allOneC {vs : List Value} (h : vs.all free0 = true) : vs.all oneC = true := by
 rw [List.all_eq_true] at h ⊢
 exact fun v hv => free0_oneC (h v hv)
theorem cf_free1 {ks : List Lk} {vs : List Value} (h : cf ks vs = true) : vs.all free1 = true := all_free1 (cf_free0 h)
theorem cf_oneC {ks : List Lk} {vs : List Value} (h : cf ks vs = true) : vs.all oneC = true := allOneC (cf_free0 h)
theorem cf_drop : ∀ (n : Nat) {ks : List Lk} {vs : List Value}, cf ks vs = true → cf (ks.drop n) (vs.drop n) = true
 | 0, _, _, h => h
 | _ + 1, [], [], _ => rfl
 | _ + 1, [], _ :: _, h => by cases h
 | _ + 1, _ :: _, [], h => by cases h
 | n + 1, k :: ks, v :: vs, h => by
  simp only [cf, Bool.and_eq_true] at h
  exact cf_drop n h.2
theorem cf_take : ∀ (n : Nat) {ks : List Lk} {vs : List Value}, cf ks vs = true → cf (ks.take n) (vs.take n) = true
 | 0, _, _, _ => rfl
 | _ + 1, [], [], _ => rfl
 | _ + 1, [], _ :: _, h => by cases h
 | _ + 1, _ :: _, [], h => by cases h
 | n + 1, k :: ks, v :: vs, h => by
  simp only [cf, Bool.and_eq_true] at h
  simp only [List.take_succ_cons, cf, h.1, cf_take n h.2, Bool.and_self]
theorem cf_append : ∀ {ks ks' : List Lk} {vs vs' : List Value}, cf ks vs = true → cf ks' vs' = true → cf (ks ++ ks') (vs ++ vs') = true
 | [], _, [], _, _, h' => h'
 | [], _, _ :: _, _, h, _ => by cases h
 | _ :: _, _, [], _, h, _ => by cases h
 | k :: ks, _, v :: vs, _, h, h' => by
  simp only [cf, Bool.and_eq_true] at h
  simp only [List.cons_append, cf, h.1, cf_append h.2 h', Bool.and_self]
theorem cf_part {ks ks' : List Lk} {vs : List Value} (i j : Nat) (h : cf ks vs = true) (hk : (ks.drop i).take j = ks') : cf ks' ((vs.drop i).take j) = true := by
 rw [← hk]; exact cf_take j (cf_drop i h)
def cfs (ks : List Lk) (L : List (List Value)) : Prop := ∀ x ∈ L, cf ks x = true
theorem cfs_nil {ks : List Lk} : cfs ks [] := fun _ h => by cases h
theorem cfs_append {ks : List Lk} {L M : List (List Value)} (h : cfs ks L) (h' : cfs ks M) : cfs ks (L ++ M) := fun x hx => (List.mem_append.1 hx).elim (h x) (h' x)
theorem cfs_one {ks : List Lk} {x : List Value} (h : cf ks x = true) : cfs ks [x] := fun y hy => by rw [List.mem_singleton.1 hy]; exact h
theorem cfs_sub {ks : List Lk} {L M : List (List Value)} (h : cfs ks L) (hs : ∀ x ∈ M, x ∈ L) : cfs ks M := fun x hx => h x (hs x hx)
theorem cfs_len : ∀ {ks : List Lk} {L : List (List Value)}, cfs ks L → L.flatten.length = L.length * ks.length
 | _, [], _ => by simp
 | ks, x :: L, h => by
  have h1 := cf_len (h x (List.mem_cons_self ..))
  have h2 := cfs_len (ks := ks) (L := L) fun y hy => h y (List.mem_cons_of_mem _ hy)
  simp only [List.flatten_cons, List.length_append, List.length_cons, h1, h2, Nat.add_mul]
  omega
theorem cfs_free0 : ∀ {ks : List Lk} {L : List (List Value)}, cfs ks L → L.flatten.all free0 = true
 | _, [], _ => rfl
 | ks, x :: L, h => by
  have h1 := cf_free0 (h x (List.mem_cons_self ..))
  have h2 := cfs_free0 (ks := ks) (L := L) fun y hy => h y (List.mem_cons_of_mem _ hy)
  simp only [List.flatten_cons, List.all_append, h1, h2, Bool.and_self]
theorem cfs_free1 {ks : List Lk} {L : List (List Value)} (h : cfs ks L) : L.flatten.all free1 = true := all_free1 (cfs_free0 h)
def nth (L : List (List Value)) (i : Int) : List Value := L.getD i.toNat []
theorem nth_eq {L : List (List Value)} {i : Int} (h : i.toNat < L.length) : nth L i = L[i.toNat] := by unfold nth; rw [List.getD_eq_getElem?_getD, List.getElem?_eq_getElem h]; rfl
theorem nth_mem {L : List (List Value)} {i : Int} (h0 : 0 ≤ i) (h : i < L.length) : nth L i ∈ L := by rw [nth_eq (by omega)]; exact List.getElem_mem _
theorem cf_nth {ks : List Lk} {L : List (List Value)} {i : Int} (hL : cfs ks L) (h0 : 0 ≤ i) (h : i < L.length) : cf ks (nth L i) = true := hL _ (nth_mem h0 h)
theorem flat_at : ∀ {ks : List Lk} {L : List (List Value)} (i : Nat), cfs ks L → i < L.length → (L.flatten.drop (i * ks.length)).take ks.length = L.getD i []
 | ks, [], _, _, h => by simp at h
 | ks, x :: L, 0, hL, _ => by
  have h1 := cf_len (hL x (List.mem_cons_self ..))
  simp only [Nat.zero_mul, List.drop_zero, List.flatten_cons]
  rw [← h1, List.take_left']
  ·rfl
  ·rfl
 | ks, x :: L, i + 1, hL, h => by
  have h1 := cf_len (hL x (List.mem_cons_self ..))
  have ih := flat_at (ks := ks) (L := L) i (fun y hy => hL y (List.mem_cons_of_mem _ hy)) (by simpa using h)
  have e : (i + 1) * ks.length = x.length + i * ks.length := by rw [h1, Nat.add_mul]; omega
  rw [List.flatten_cons, e, List.drop_append]
  simp only [List.drop_eq_nil_of_le (Nat.le_add_right _ _), List.nil_append, Nat.add_sub_cancel_left]
  exact ih
theorem flat_part {ks : List Lk} {L : List (List Value)} (i a k : Nat) (hL : cfs ks L) (h : i < L.length) (hk : a + k ≤ ks.length) :
  (L.flatten.drop (i * ks.length + a)).take k = ((L.getD i []).drop a).take k := by
 rw [← flat_at i hL h, ← List.drop_drop, List.drop_take, List.take_take, Nat.min_eq_left (by omega)]
def ints (l : List Int) : List Value := l.map (.int .i64)
theorem ints_len (l : List Int) : (ints l).length = l.length := List.length_map ..
theorem ints_free0 (l : List Int) : (ints l).all free0 = true := by
 rw [List.all_eq_true]
 intro v hv
 obtain ⟨n, _, rfl⟩ := List.mem_map.1 hv
 rfl
theorem ints_free1 (l : List Int) : (ints l).all free1 = true := all_free1 (ints_free0 l)
theorem ints_append (l m : List Int) : ints (l ++ m) = ints l ++ ints m := List.map_append
theorem ints_one (n : Int) : ints [n] = [.int .i64 n] := rfl
def ith (l : List Int) (i : Int) : Int := l.getD i.toNat 0
theorem ints_at {l : List Int} {i : Nat} (h : i < l.length) : ((ints l).drop i).take 1 = [.int .i64 (l.getD i 0)] := by
 have h' : i < (ints l).length := by rw [ints_len]; exact h
 rw [List.drop_eq_getElem_cons h']
 simp only [List.take_succ_cons, List.take_zero, ints, List.getElem_map]
 rw [List.getD_eq_getElem?_getD, List.getElem?_eq_getElem h]
 rfl
section bin
variable {P : Program} {t : TypeId} {xo yo : Operand} {k : IntKind} {a b : Int}
theorem b_add : binV P .add t xo yo (.int k a) (.int k b) = some (.int k (k.wrap (a + b))) := by cases k <;> rfl
theorem b_sub : binV P .sub t xo yo (.int k a) (.int k b) = some (.int k (k.wrap (a - b))) := by cases k <;> rfl
theorem quick_quo (h : b ≠ 0) : quick P (Op.intDiv .quo k a b) = some (.int k (k.wrap (a.tdiv b))) := by unfold Op.intDiv; rw [if_neg h]; rfl
theorem quick_rem (h : b ≠ 0) : quick P (Op.intDiv .rem k a b) = some (.int k (a.tmod b)) := by unfold Op.intDiv; rw [if_neg h]; rfl
theorem b_quo (h : b ≠ 0) : binV P .quo t xo yo (.int k a) (.int k b) = some (.int k (k.wrap (a.tdiv b))) := by
 have e : binV P .quo t xo yo (.int k a) (.int k b) = keep (quick P (Op.intDiv .quo k a b)) := by cases k <;> rfl
 rw [e, quick_quo h]; rfl
theorem b_rem (h : b ≠ 0) : binV P .rem t xo yo (.int k a) (.int k b) = some (.int k (a.tmod b)) := by
 have e : binV P .rem t xo yo (.int k a) (.int k b) = keep (quick P (Op.intDiv .rem k a b)) := by cases k <;> rfl
 rw [e, quick_rem h]; rfl
theorem b_eql : binV P .eql t xo yo (.int k a) (.int k b) = some (.bool (decide (a = b))) := by cases k <;> rfl
theorem b_neq : binV P .neq t xo yo (.int k a) (.int k b) = some (.bool (!decide (a = b))) := by cases k <;> rfl
theorem b_lss : binV P .lss t xo yo (.int k a) (.int k b) = some (.bool (decide (a < b))) := by cases k <;> rfl
theorem b_leq : binV P .leq t xo yo (.int k a) (.int k b) = some (.bool (decide (a ≤ b))) := by cases k <;> rfl
theorem b_gtr : binV P .gtr t xo yo (.int k a) (.int k b) = some (.bool (decide (b < a))) := by cases k <;> rfl
theorem b_geq : binV P .geq t xo yo (.int k a) (.int k b) = some (.bool (decide (b ≤ a))) := by cases k <;> rfl
theorem b_shr {k' : IntKind} (h : 0 ≤ b) : binV P .shr t xo yo (.int k a) (.int k' b) = some (.int k (a.fdiv (2 ^ (min b.toNat k.bits)))) := by
 have e : binV P .shr t xo yo (.int k a) (.int k' b) = keep (quick P (Op.shift .shr k a k' b)) := by cases k <;> cases k' <;> rfl
 rw [e]
 unfold Op.shift
 rw [if_neg (by omega)]
 rfl
theorem run_und {u : TypeDesc} (h : P.underlying t = some u) : quick P (underlying t) = some u := by
 have e : quick P (underlying t) = quick P (match P.underlying t with | some d => pure d | none => stuck _) := rfl
 rw [e, h]; rfl
theorem c_int {s d : TypeId} {k' : IntKind} {u : TypeDesc} (hs : P.underlying s = some u) (hd : P.underlying d = some (.int k')) : quick P (convert s d (.int k a)) = some (.int k' (k'.wrap a)) := by
 unfold convert
 rw [quick_bind, run_und hs, Option.bind_some, quick_bind, run_und hd, Option.bind_some]
 cases u <;> rfl
end bin
end Go.AM
namespace Go.AM
theorem q_bind {α γ : Type} {P : Program} {s : Sem α} {f : α → Sem γ} {a : α} (h : quick P s = some a) : quick P (s >>= f) = quick P (f a) := by rw [quick_bind, h]; rfl
theorem q_pure {α : Type} {P : Program} (a : α) : quick P (pure a) = some a := rfl
theorem q_program {P : Program} : quick P program = some P := rfl
theorem q_info {P : Program} {t : TypeId} {i : TypeInfo} (h : P.info? t = some i) : quick P (typeInfo t) = some i := by
 have e : quick P (typeInfo t) = quick P (match P.info? t with | some d => pure d | none => stuck _) := rfl
 rw [e, h]; rfl
theorem q_size {P : Program} {t : TypeId} {k : Nat} (h : szOf P t = some k) : quick P (sizeOf t) = some k := by
 unfold szOf at h
 cases hi : P.info? t with
 | none => rw [hi] at h; cases h
 | some i =>
  rw [hi] at h
  unfold sizeOf
  rw [q_bind (q_info hi), q_pure]
  exact h
theorem q_isAgg {P : Program} {t : TypeId} {b : Bool} (h : aggOf P t = some b) : quick P (isAgg t) = some b := by
 unfold aggOf at h
 unfold isAgg
 split at h
 ·rename_i hu; rw [q_bind (run_und hu)]; exact h
 ·rename_i hu; rw [q_bind (run_und hu)]; exact h
 ·rename_i u hn1 hn2 hu
  rw [q_bind (run_und hu)]
  cases u with
  | struct fs => exact absurd rfl (hn1 fs)
  | array n e => exact absurd rfl (hn2 n e)
  | _ => exact h
 ·cases h
def flatFs (P : Program) (g : TypeId → Option (List Lk)) : List Field → Nat → Option (List Lk)
 | [], _ => some []
 | f :: fs, off =>
  match g f.type, szOf P f.type with
  | some ks, some k => if f.name ≠ "_" ∧ f.offset = off ∧ ks.length = k then (flatFs P g fs (off + k)).map (ks ++ ·) else none
  | _, _ => none
def flatTy (P : Program) : Nat → TypeId → Option (List Lk)
 | 0, _ => none
 | d + 1, t =>
  match P.underlying t with
  | some .bool => some [.bool]
  | some (.int k) => some [.int k]
  | some .string => some [.str]
  | some (.struct fs) => if P.stoodInHeld t then none else flatFs P (flatTy P d) fs.toList 0
  | some (.array n e) =>
   match flatTy P d e, szOf P e with
   | some ks, some k => if ks.length = k then some (List.replicate n ks).flatten else none
   | _, _ => none
  | _ => none
def eqC : Value → Value → Bool
 | .bool a, .bool b => a == b
 | .int k a, .int k' b => decide (k = k') && decide (a = b)
 | .string a, .string b => a.toList == b.toList
 | _, _ => false
def eqCs : List Value → List Value → Bool
 | [], [] => true
 | x :: xs, y :: ys => eqC x y && eqCs xs ys
 | _, _ => false
theorem eqC_iff {k : Lk} {x y : Value} (hx : k.ok x = true) : eqC x y = true ↔ x = y := by
 cases k <;> cases x <;> first | (exfalso; simp [Lk.ok] at hx; done) | (cases y <;> simp [eqC])
 rw [ByteArray.toList_eq, ByteArray.toList_eq]
 rename_i a b
 obtain ⟨⟨x⟩⟩ := a
 obtain ⟨⟨y⟩⟩ := b
 simp
theorem eqCs_iff : ∀ {ks : List Lk} {xs ys : List Value}, cf ks xs = true → (eqCs xs ys = true ↔ xs = ys)
 | [], [], [], _ => by simp [eqCs]
 | [], [], _ :: _, _ => by simp [eqCs]
 | [], _ :: _, _, h => by cases h
 | _ :: _, [], _, h => by cases h
 | k :: ks, x :: xs, [], h => by simp [eqCs]
 | k :: ks, x :: xs, y :: ys, h => by
  simp only [cf, Bool.and_eq_true] at h
  simp only [eqCs, Bool.and_eq_true, eqC_iff h.1, eqCs_iff h.2, List.cons.injEq]
theorem eqCs_append : ∀ {xs ys xs' ys' : List Value}, xs.length = ys.length → eqCs (xs ++ xs') (ys ++ ys') = (eqCs xs ys && eqCs xs' ys')
 | [], [], _, _, _ => by simp [eqCs]
 | [], _ :: _, _, _, h => by simp at h
 | _ :: _, [], _, _, h => by simp at h
 | x :: xs, y :: ys, _, _, h => by
  simp only [List.cons_append, eqCs, eqCs_append (xs := xs) (ys := ys) (by simpa using h), Bool.and_assoc]
def packV (P : Program) (t : TypeId) (cs : List Value) : Option Value :=
 match aggOf P t, cs with
 | some true, cs => some (.agg ⟨cs⟩)
 | some false, [v] => some v
 | _, _ => none
def EqQ (P : Program) (d : Nat) (t : TypeId) (ks : List Lk) : Prop :=
 ∀ xs ys x y, cf ks xs = true → cf ks ys = true → packV P t xs = some x → packV P t ys = some y → quick P (Op.equalIn d t x y) = some (eqCs xs ys)
theorem q_part {P : Program} {t : TypeId} {cs : List Value} {off k : Nat} {v : Value} (hk : szOf P t = some k) (hv : packV P t ((cs.drop off).take k) = some v) (hl : off + k ≤ cs.length) :
  quick P (part t ⟨cs⟩ off) = some v := by
 unfold packV at hv
 unfold part
 split at hv
 ·rename_i ha
  cases hv
  rw [q_bind (q_isAgg ha)]
  simp only [if_true]
  rw [q_bind (q_size hk), q_pure]
  congr 2
  apply Array.ext'
  simp only [Array.toList_extract]
  rw [List.extract_eq_take_drop, Nat.add_sub_cancel_left]
 ·rename_i u ha he
  cases hv
  rw [q_bind (q_isAgg ha)]
  simp only [Bool.false_eq_true, if_false]
  have h1 : 0 < k := by
   rcases k with _ | k
   ·simp at he
   ·omega
  have : cs[off]? = some v := by
   have h2 : ((cs.drop off).take k)[0]? = some v := by rw [he]; rfl
   rw [List.getElem?_take_of_lt h1, List.getElem?_drop] at h2
   simpa using h2
  simp only [List.getElem?_toArray, this]
  rfl
 ·cases hv
theorem q_eqFields {P : Program} (d : Nat) (xs ys : Array Value) (fs : List Field) :
  quick P (do
   for f in fs do
    if f.name ≠ "_" then
     if !(← Op.equalIn d f.type (← part f.type xs f.offset) (← part f.type ys f.offset)) then return false
   pure true) = quick P (Op.eqFields d xs ys fs) := by
 induction fs with
 | nil => rfl
 | cons f fs ih =>
  simp only [List.forIn_cons, Op.eqFields, bind_assoc]
  split
  ·simp only [bind_assoc, quick_bind]
   cases quick P (part f.type xs f.offset) with
   | none => rfl
   | some a =>
    simp only [Option.bind_some]
    cases quick P (part f.type ys f.offset) with
    | none => rfl
    | some b =>
     simp only [Option.bind_some]
     cases quick P (Op.equalIn d f.type a b) with
     | none => rfl
     | some r =>
      cases r
      ·rfl
      ·simp only [Option.bind_some, Bool.not_true, Bool.false_eq_true, if_false, q_pure, quick_bind] at ih ⊢
       exact ih
  ·simp only [quick_bind, q_pure, Option.bind_some] at ih ⊢
   exact ih
theorem q_eqItems {P : Program} (d : Nat) (e : TypeId) (n : Nat) (xs ys : Array Value) (is : List Nat) :
  quick P (do
   for i in is do
    if !(← Op.equalIn d e (← part e xs (i * n)) (← part e ys (i * n))) then return false
   pure true) = quick P (Op.eqItems d e n xs ys is) := by
 induction is with
 | nil => rfl
 | cons f fs ih =>
  simp only [List.forIn_cons, Op.eqItems, bind_assoc, quick_bind]
  cases quick P (part e xs (f * n)) with
  | none => rfl
  | some a =>
   simp only [Option.bind_some]
   cases quick P (part e ys (f * n)) with
   | none => rfl
   | some b =>
    simp only [Option.bind_some]
    cases quick P (Op.equalIn d e a b) with
    | none => rfl
    | some r =>
     cases r
     ·rfl
     ·simp only [Option.bind_some, Bool.not_true, Bool.false_eq_true, if_false, q_pure, quick_bind] at ih ⊢
      exact ih
theorem part_at {P : Program} {d : Nat} {t : TypeId} {ks : List Lk} (hd : flatTy P d t = some ks) {cs : List Value} (hc : cf ks cs = true) :
  ∃ v, packV P t cs = some v := by
 cases d with
 | zero => cases hd
 | succ d =>
  unfold flatTy at hd
  unfold packV aggOf
  have one : ∀ k0, ks = [k0] → ∃ v, cs = [v] := fun k0 e => by
   subst e
   have := cf_len hc
   match cs, this with
   | [v], _ => exact ⟨v, rfl⟩
  split at hd
  ·rename_i hu; cases hd; obtain ⟨v, rfl⟩ := one _ rfl; rw [hu]; exact ⟨_, rfl⟩
  ·rename_i hu; cases hd; obtain ⟨v, rfl⟩ := one _ rfl; rw [hu]; exact ⟨_, rfl⟩
  ·rename_i hu; cases hd; obtain ⟨v, rfl⟩ := one _ rfl; rw [hu]; exact ⟨_, rfl⟩
  ·rename_i hu; rw [hu]; exact ⟨_, rfl⟩
  ·rename_i hu; rw [hu]; exact ⟨_, rfl⟩
  ·cases hd
theorem eqFields_flat {P : Program} {d D : Nat} (ih : ∀ t ks, flatTy P d t = some ks → EqQ P D t ks) : ∀ (fs : List Field) (off : Nat) (ks : List Lk), flatFs P (flatTy P d) fs off = some ks →
  ∀ (xs ys : List Value), off + ks.length = xs.length → off + ks.length = ys.length → cf ks (xs.drop off) = true → cf ks (ys.drop off) = true →
  quick P (Op.eqFields D ⟨xs⟩ ⟨ys⟩ fs) = some (eqCs (xs.drop off) (ys.drop off))
 | [], off, ks, h, xs, ys, h1, h2, _, _ => by
  cases h
  simp only [List.length_nil, Nat.add_zero] at h1 h2
  rw [List.drop_eq_nil_of_le (by omega), List.drop_eq_nil_of_le (by omega)]
  rfl
 | f :: fs, off, ks, h, xs, ys, h1, h2, c1, c2 => by
  simp only [flatFs] at h
  split at h
  case h_2 => cases h
  rename_i kf k hf hk
  split at h
  case isFalse => cases h
  rename_i hc
  obtain ⟨hn, ho, hl⟩ := hc
  obtain ⟨kr, h3, h4⟩ := map_inv' h
  subst h4
  simp only [List.length_append] at h1 h2
  have g : ∀ (zs : List Value), off + (kf.length + kr.length) = zs.length → cf (kf ++ kr) (zs.drop off) = true → cf kf ((zs.drop off).take k) = true ∧ cf kr (zs.drop (off + k)) = true := by
   intro zs hz hcz
   have p1 := cf_take k hcz
   have p2 := cf_drop k hcz
   rw [List.take_append_of_le_length (by omega), List.take_of_length_le (by omega)] at p1
   rw [List.drop_append_of_le_length (by omega), List.drop_eq_nil_of_le (by omega), List.nil_append, List.drop_drop] at p2
   exact ⟨p1, p2⟩
  obtain ⟨x1, x2⟩ := g xs h1 c1
  obtain ⟨y1, y2⟩ := g ys h2 c2
  obtain ⟨vx, hx⟩ := part_at hf x1
  obtain ⟨vy, hy⟩ := part_at hf y1
  have e1 := q_part (cs := xs) (off := off) hk hx (by omega)
  have e2 := q_part (cs := ys) (off := off) hk hy (by omega)
  rw [← ho] at e1 e2
  have e3 := ih _ _ hf _ _ _ _ x1 y1 hx hy
  have e4 := eqFields_flat ih fs (off + k) kr h3 xs ys (by omega) (by omega) x2 y2
  simp only [Op.eqFields, hn, ne_eq, not_false_eq_true, if_true]
  rw [q_bind e1, q_bind e2, q_bind e3]
  have s1 : xs.drop off = (xs.drop off).take k ++ xs.drop (off + k) := by rw [← List.drop_drop, List.take_append_drop]
  have s2 : ys.drop off = (ys.drop off).take k ++ ys.drop (off + k) := by rw [← List.drop_drop, List.take_append_drop]
  have e5 : eqCs (xs.drop off) (ys.drop off) = (eqCs ((xs.drop off).take k) ((ys.drop off).take k) && eqCs (xs.drop (off + k)) (ys.drop (off + k))) := by
   conv => lhs; rw [s1, s2]
   exact eqCs_append (by rw [cf_len x1, cf_len y1])
  rw [e5]
  cases eqCs ((xs.drop off).take k) ((ys.drop off).take k)
  ·rfl
  ·simp only [Bool.not_true, Bool.false_eq_true, if_false, Bool.true_and]
   exact e4
theorem eqItems_flat {P : Program} {d D : Nat} {t : TypeId} {kf : List Lk} {k : Nat} (hf : flatTy P d t = some kf) (hk : szOf P t = some k) (hl : kf.length = k) (ih : EqQ P D t kf) :
  ∀ (n s : Nat) (xs ys : List Value), (s + n) * k = xs.length → (s + n) * k = ys.length → cf (List.replicate n kf).flatten (xs.drop (s * k)) = true → cf (List.replicate n kf).flatten (ys.drop (s * k)) = true →
  quick P (Op.eqItems D t k ⟨xs⟩ ⟨ys⟩ (List.range' s n)) = some (eqCs (xs.drop (s * k)) (ys.drop (s * k)))
 | 0, s, xs, ys, h1, h2, _, _ => by
  simp only [Nat.add_zero] at h1 h2
  rw [List.drop_eq_nil_of_le (by omega), List.drop_eq_nil_of_le (by omega)]
  rfl
 | n + 1, s, xs, ys, h1, h2, c1, c2 => by
  have e0 : (s + (n + 1)) * k = s * k + k + n * k := by simp only [Nat.add_mul, Nat.one_mul]; omega
  have e0' : (s + 1) * k = s * k + k := by simp only [Nat.add_mul, Nat.one_mul]
  have er : (s + 1 + n) * k = s * k + k + n * k := by simp only [Nat.add_mul, Nat.one_mul]
  rw [e0] at h1 h2
  have hr : ((List.replicate n kf).flatten).length = n * k := by
   simp [hl]
  rw [List.replicate_succ, List.flatten_cons] at c1 c2
  have g : ∀ (zs : List Value), s * k + k + n * k = zs.length → cf (kf ++ (List.replicate n kf).flatten) (zs.drop (s * k)) = true → cf kf ((zs.drop (s * k)).take k) = true ∧ cf (List.replicate n kf).flatten (zs.drop ((s + 1) * k)) = true := by
   intro zs hz hcz
   have p1 := cf_take k hcz
   have p2 := cf_drop k hcz
   rw [List.take_append_of_le_length (by omega), List.take_of_length_le (by omega)] at p1
   rw [List.drop_append_of_le_length (by omega), List.drop_eq_nil_of_le (by omega), List.nil_append, List.drop_drop, ← e0'] at p2
   exact ⟨p1, p2⟩
  obtain ⟨x1, x2⟩ := g xs h1 c1
  obtain ⟨y1, y2⟩ := g ys h2 c2
  obtain ⟨vx, hx⟩ := part_at hf x1
  obtain ⟨vy, hy⟩ := part_at hf y1
  have e1 := q_part (cs := xs) (off := s * k) hk hx (by omega)
  have e2 := q_part (cs := ys) (off := s * k) hk hy (by omega)
  have e3 := ih _ _ _ _ x1 y1 hx hy
  have e4 := eqItems_flat hf hk hl ih n (s + 1) xs ys (by omega) (by omega) x2 y2
  simp only [List.range'_succ, Op.eqItems]
  rw [q_bind e1, q_bind e2, q_bind e3]
  have s1 : xs.drop (s * k) = (xs.drop (s * k)).take k ++ xs.drop ((s + 1) * k) := by rw [e0', ← List.drop_drop, List.take_append_drop]
  have s2 : ys.drop (s * k) = (ys.drop (s * k)).take k ++ ys.drop ((s + 1) * k) := by rw [e0', ← List.drop_drop, List.take_append_drop]
  have e5 : eqCs (xs.drop (s * k)) (ys.drop (s * k)) = (eqCs ((xs.drop (s * k)).take k) ((ys.drop (s * k)).take k) && eqCs (xs.drop ((s + 1) * k)) (ys.drop ((s + 1) * k))) := by
   conv => lhs; rw [s1, s2]
   exact eqCs_append (by rw [cf_len x1, cf_len y1])
  rw [e5]
  cases eqCs ((xs.drop (s * k)).take k) ((ys.drop (s * k)).take k)
  ·rfl
  ·simp only [Bool.not_true, Bool.false_eq_true, if_false, Bool.true_and]
   exact e4
theorem eq_flat {P : Program} : ∀ (d : Nat) (t : TypeId) (ks : List Lk), flatTy P d t = some ks → ∀ D, EqQ P (D + d) t ks
 | 0, _, _, h => by cases h
 | d + 1, t, ks, h => by
  intro D xs ys x y cx cy px py
  have ih : ∀ t ks, flatTy P d t = some ks → EqQ P (D + d) t ks := fun t ks h => eq_flat d t ks h D
  have one : ∀ k0 : Lk, ks = [k0] → ∀ zs, cf ks zs = true → ∃ v, zs = [v] ∧ k0.ok v = true := fun k0 e zs hc => by
   subst e
   have := cf_len hc
   match zs, this, hc with
   | [v], _, hc => exact ⟨v, rfl, by simpa [cf] using hc⟩
  unfold flatTy at h
  unfold packV aggOf at px py
  show quick P (Op.equalIn (D + d + 1) t x y) = _
  split at h
  ·rename_i hu
   cases h
   rw [hu] at px py
   obtain ⟨a, rfl, ha⟩ := one _ rfl xs cx
   obtain ⟨b, rfl, hb⟩ := one _ rfl ys cy
   cases px; cases py
   cases x <;> first | cases ha | skip
   cases y <;> first | cases hb | skip
   unfold Op.equalIn
   rw [q_bind (run_und hu)]
   simp only [q_pure, eqCs, eqC, Bool.and_true]
  ·rename_i k hu
   cases h
   rw [hu] at px py
   obtain ⟨a, rfl, ha⟩ := one _ rfl xs cx
   obtain ⟨b, rfl, hb⟩ := one _ rfl ys cy
   cases px; cases py
   cases x <;> first | cases ha | skip
   cases y <;> first | cases hb | skip
   rename_i k1 n1 k2 n2
   simp only [Lk.ok, decide_eq_true_eq] at ha hb
   subst ha; subst hb
   unfold Op.equalIn
   rw [q_bind (run_und hu)]
   simp only [if_true, q_pure, eqCs, eqC, Bool.and_true, decide_true, Bool.true_and]
   rfl
  ·rename_i hu
   cases h
   rw [hu] at px py
   obtain ⟨a, rfl, ha⟩ := one _ rfl xs cx
   obtain ⟨b, rfl, hb⟩ := one _ rfl ys cy
   cases px; cases py
   cases x <;> first | cases ha | skip
   cases y <;> first | cases hb | skip
   unfold Op.equalIn
   rw [q_bind (run_und hu)]
   simp only [q_pure, eqCs, eqC, Bool.and_true, beq_toListBytes]
  ·rename_i fs hu
   split at h
   ·cases h
   rename_i hs
   rw [hu] at px py
   cases px; cases py
   have hl := cf_len cx
   have hl' := cf_len cy
   unfold Op.equalIn
   rw [q_bind (run_und hu), q_bind q_program]
   simp only [hs, Bool.false_eq_true, if_false]
   rw [← Array.forIn_toList, q_eqFields]
   exact eqFields_flat ih fs.toList 0 ks h xs ys (by omega) (by omega) (by simpa using cx) (by simpa using cy)
  ·rename_i n e hu
   split at h
   case h_2 => cases h
   rename_i kf k hf hk
   split at h
   case isFalse => cases h
   rename_i hlk
   cases h
   rw [hu] at px py
   cases px; cases py
   have hl := cf_len cx
   have hl' := cf_len cy
   have hr : ((List.replicate n kf).flatten).length = n * k := by
    simp [hlk]
   unfold Op.equalIn
   rw [q_bind (run_und hu), q_bind (q_size hk)]
   simp only [Std.Legacy.Range.forIn_eq_forIn_range', Std.Legacy.Range.size, Nat.sub_zero, Nat.add_one_sub_one, Nat.div_one]
   rw [q_eqItems]
   have := eqItems_flat hf hk hlk (ih _ _ hf) n 0 xs ys (by simp; omega) (by simp; omega) (by simpa using cx) (by simpa using cy)
   simpa using this
  ·cases h
section
variable {P : Program} {t : TypeId} {xo yo : Operand} {ks : List Lk} {a b : List Value} {d : Nat}
theorem quick_equal (hd : d ≤ 10000) (hf : flatTy P d t = some ks) (hg : aggOf P t = some true) (ha : cf ks a = true) (hb : cf ks b = true) : quick P (Op.equal t (.agg ⟨a⟩) (.agg ⟨b⟩)) = some (eqCs a b) := by
 have h := eq_flat d t ks hf (10000 - d) a b _ _ ha hb (by unfold packV; rw [hg]) (by unfold packV; rw [hg])
 rw [show 10000 - d + d = 10000 by omega] at h
 exact h
theorem guard_ok {op : BinOp} (ho : op = .eql ∨ op = .neq) (hg : P.eqGuardType P.depth t = false) : quick P (eqGuard op t xo yo (.agg ⟨a⟩) (.agg ⟨b⟩)) = some () := by
 have e : ∃ K : Sem Unit, quick P (eqGuard op t xo yo (.agg ⟨a⟩) (.agg ⟨b⟩)) = quick P (if (!P.eqGuardType P.depth t) = true then pure () else K) := by
  rcases ho with rfl | rfl <;> exact ⟨_, rfl⟩
 obtain ⟨K, e⟩ := e
 rw [e, hg]; rfl
theorem b_eqlA (hd : d ≤ 10000) (hf : flatTy P d t = some ks) (hg : aggOf P t = some true) (hq : P.eqGuardType P.depth t = false) (ha : cf ks a = true) (hb : cf ks b = true) :
  binV P .eql t xo yo (.agg ⟨a⟩) (.agg ⟨b⟩) = some (.bool (eqCs a b)) := by
 have fa : free1 (.agg ⟨a⟩) = true := cf_free0 ha
 have fb : free1 (.agg ⟨b⟩) = true := cf_free0 hb
 unfold binV
 rw [fa, fb]
 simp only [Bool.and_self, if_true]
 rw [q_bind (guard_ok (.inl rfl) hq)]
 have e : quick P (binOp .eql t (.agg ⟨a⟩) (.agg ⟨b⟩)) = quick P (do pure (Value.bool (← Op.equal t (.agg ⟨a⟩) (.agg ⟨b⟩)))) := rfl
 rw [e, q_bind (quick_equal hd hf hg ha hb)]
 rfl
theorem b_neqA (hd : d ≤ 10000) (hf : flatTy P d t = some ks) (hg : aggOf P t = some true) (hq : P.eqGuardType P.depth t = false) (ha : cf ks a = true) (hb : cf ks b = true) :
  binV P .neq t xo yo (.agg ⟨a⟩) (.agg ⟨b⟩) = some (.bool (!eqCs a b)) := by
 have fa : free1 (.agg ⟨a⟩) = true := cf_free0 ha
 have fb : free1 (.agg ⟨b⟩) = true := cf_free0 hb
 unfold binV
 rw [fa, fb]
 simp only [Bool.and_self, if_true]
 rw [q_bind (guard_ok (.inr rfl) hq)]
 have e : quick P (binOp .neq t (.agg ⟨a⟩) (.agg ⟨b⟩)) = quick P (do pure (Value.bool (!(← Op.equal t (.agg ⟨a⟩) (.agg ⟨b⟩))))) := rfl
 rw [e, q_bind (quick_equal hd hf hg ha hb)]
 rfl
end
end Go.AM
namespace Go.AM
def intAt (cs : List Value) (a : Nat) : Int := match cs[a]? with | some (.int _ n) => n | _ => 0
def strAt (cs : List Value) (a : Nat) : ByteArray := match cs[a]? with | some (.string s) => s | _ => .empty
theorem cell_int {ks : List Lk} {cs : List Value} {a : Nat} {k : IntKind} (hc : cf ks cs = true) (hk : ks[a]? = some (.int k)) : (cs.drop a).take 1 = [.int k (intAt cs a)] ∧ cs[a]? = some (.int k (intAt cs a)) := by
 induction a generalizing ks cs with
 | zero =>
  match ks, cs, hc, hk with
  | k0 :: ks, v :: cs, hc, hk =>
   simp only [List.getElem?_cons_zero, Option.some.injEq] at hk
   subst hk
   simp only [cf, Bool.and_eq_true] at hc
   cases v <;> first | (exfalso; simp [Lk.ok] at hc; done) | skip
   rename_i k1 n
   have : k = k1 := by simpa [Lk.ok] using hc.1
   subst this
   exact ⟨rfl, rfl⟩
 | succ a ih =>
  match ks, cs, hc, hk with
  | k0 :: ks, v :: cs, hc, hk =>
   simp only [cf, Bool.and_eq_true] at hc
   have := ih hc.2 (by simpa using hk)
   exact ⟨by simpa [intAt] using this.1, by simpa [intAt] using this.2⟩
theorem cell_str {ks : List Lk} {cs : List Value} {a : Nat} (hc : cf ks cs = true) (hk : ks[a]? = some .str) : (cs.drop a).take 1 = [.string (strAt cs a)] ∧ cs[a]? = some (.string (strAt cs a)) := by
 induction a generalizing ks cs with
 | zero =>
  match ks, cs, hc, hk with
  | k0 :: ks, v :: cs, hc, hk =>
   simp only [List.getElem?_cons_zero, Option.some.injEq] at hk
   subst hk
   simp only [cf, Bool.and_eq_true] at hc
   cases v <;> first | (exfalso; simp [Lk.ok] at hc; done) | skip
   exact ⟨rfl, rfl⟩
 | succ a ih =>
  match ks, cs, hc, hk with
  | k0 :: ks, v :: cs, hc, hk =>
   simp only [cf, Bool.and_eq_true] at hc
   have := ih hc.2 (by simpa using hk)
   exact ⟨by simpa [strAt] using this.1, by simpa [strAt] using this.2⟩
section loads
variable {h : AH} {id : Nat} {f : Fam} {L : List (List Value)} {ks : List Lk} {K : Nat} {i : Int} {a k : Nat} {l : List Int} {cs : List Value}
theorem l_fam (hf : h.fam id = some f) (off k : Nat) (h1 : f.lo ≤ off ∧ off + k ≤ f.rb id) : loadC h id off k = some ((f.data.drop off).take k) := by
 unfold loadC; rw [hf]; simp only; rw [if_pos h1]
structure Whole (h : AH) (id : Nat) (d : List Value) : Prop where
 ex : ∃ f, h.fam id = some f ∧ f.lo = 0 ∧ f.data = d ∧ f.rb id = d.length
theorem l_whole {d : List Value} (hw : Whole h id d) (off k : Nat) (h1 : off + k ≤ d.length) : loadC h id off k = some ((d.drop off).take k) := by
 obtain ⟨f, k1, k2, k3, k4⟩ := hw.ex
 rw [← k3]
 exact l_fam k1 off k ⟨by omega, by omega⟩
theorem l_all {d : List Value} (hw : Whole h id d) {k : Nat} (h1 : k = d.length) : loadC h id 0 k = some d := by
 rw [l_whole hw 0 k (by omega), List.drop_zero, List.take_of_length_le (by omega)]
theorem l_elem (hw : Whole h id L.flatten) (hL : cfs ks L) (hk : ks.length = K) (h0 : 0 ≤ i) (h1 : i < L.length) : loadC h id (0 + i.toNat * K) K = some (nth L i) := by
 have hl := cfs_len hL
 have hi : i.toNat < L.length := by omega
 have : (i.toNat + 1) * ks.length ≤ L.length * ks.length := Nat.mul_le_mul_right _ (by omega)
 rw [Nat.add_mul] at this
 subst hk
 rw [Nat.zero_add, l_whole hw _ _ (by omega), flat_at _ hL hi]
 rfl
theorem l_part (hw : Whole h id L.flatten) (hL : cfs ks L) (hk : ks.length = K) (h0 : 0 ≤ i) (h1 : i < L.length) (h2 : a + k ≤ K) : loadC h id (0 + i.toNat * K + a) k = some (((nth L i).drop a).take k) := by
 have hl := cfs_len hL
 have hi : i.toNat < L.length := by omega
 have : (i.toNat + 1) * ks.length ≤ L.length * ks.length := Nat.mul_le_mul_right _ (by omega)
 rw [Nat.add_mul] at this
 subst hk
 rw [Nat.zero_add, l_whole hw _ _ (by omega), flat_part _ _ _ hL hi h2]
 rfl
theorem l_partI {κ : IntKind} (hw : Whole h id L.flatten) (hL : cfs ks L) (hk : ks.length = K) (h0 : 0 ≤ i) (h1 : i < L.length) (h2 : ks[a]? = some (.int κ)) : loadC h id (0 + i.toNat * K + a) 1 = some [.int κ (intAt (nth L i) a)] := by
 have : a < ks.length := (List.getElem?_eq_some_iff.1 h2).1
 rw [l_part hw hL hk h0 h1 (by omega), (cell_int (cf_nth hL h0 h1) h2).1]
theorem l_partI0 {κ : IntKind} (hw : Whole h id L.flatten) (hL : cfs ks L) (hk : ks.length = K) (h0 : 0 ≤ i) (h1 : i < L.length) (h2 : ks[0]? = some (.int κ)) : loadC h id (0 + i.toNat * K) 1 = some [.int κ (intAt (nth L i) 0)] := by
 have := l_partI hw hL hk h0 h1 h2
 rwa [Nat.add_zero] at this
theorem l_ints (hw : Whole h id (ints l)) (h0 : 0 ≤ i) (h1 : i < l.length) : loadC h id (0 + i.toNat * 1) 1 = some [.int .i64 (ith l i)] := by
 have hl := ints_len l
 rw [Nat.zero_add, Nat.mul_one, l_whole hw _ _ (by omega), ints_at (by omega)]
 rfl
theorem l_box (hw : Whole h id cs) (hc : cf ks cs = true) (h2 : a + k ≤ ks.length) : loadC h id a k = some ((cs.drop a).take k) := l_whole hw _ _ (by rw [cf_len hc]; exact h2)
theorem l_boxI {κ : IntKind} (hw : Whole h id cs) (hc : cf ks cs = true) (h2 : ks[a]? = some (.int κ)) : loadC h id a 1 = some [.int κ (intAt cs a)] := by
 have : a < ks.length := (List.getElem?_eq_some_iff.1 h2).1
 rw [l_box hw hc (by omega), (cell_int hc h2).1]
theorem l_boxS (hw : Whole h id cs) (hc : cf ks cs = true) (h2 : ks[a]? = some .str) : loadC h id a 1 = some [.string (strAt cs a)] := by
 have : a < ks.length := (List.getElem?_eq_some_iff.1 h2).1
 rw [l_box hw hc (by omega), (cell_str hc h2).1]
theorem l_boxAll (hw : Whole h id cs) (hc : cf ks cs = true) (h2 : ks.length = k) : loadC h id 0 k = some cs := l_all hw (by rw [cf_len hc, h2])
end loads
theorem setFold : ∀ (vs : List Value) (j : Nat) (pre z : List Value), z.length = vs.length → pre.length = j → ((vs.zipIdx j).foldl (fun (cs : Array Value) (p : Value × Nat) => cs.setIfInBounds p.2 p.1) ⟨pre ++ z⟩) = ⟨pre ++ vs⟩
 | [], j, pre, z, hz, _ => by
  have : z = [] := List.eq_nil_of_length_eq_zero (by simpa using hz)
  subst this; rfl
 | v :: vs, j, pre, z0 :: z, hz, hp => by
  simp only [List.zipIdx_cons, List.foldl_cons]
  have e : (⟨pre ++ z0 :: z⟩ : Array Value).setIfInBounds j v = ⟨(pre ++ [v]) ++ z⟩ := by
   apply Array.ext'
   rw [Array.toList_setIfInBounds]
   simp only
   rw [List.set_append_right _ _ (by omega), hp, Nat.sub_self]
   simp
  rw [e, setFold vs (j + 1) (pre ++ [v]) z (by simpa using hz) (by simp [hp])]
  simp
theorem fill_all {z cs : List Value} {va : Array Value} (hl : cs.length = z.length) (hc : va.toList = cs) :
  va.zipIdx.foldl (fun (cs : Array Value) (x : Value × Nat) => cs.setIfInBounds x.2 x.1) (⟨z⟩ : Array Value) = ⟨cs⟩ := by
 have := setFold cs 0 [] z hl.symm rfl
 rw [← Array.foldl_toList, Array.toList_zipIdx, hc]
 simpa using this
section ops
variable {P : Program} {call : Call'} {e : Tr Value} {h h' : AH} {o : Oper} {t el : TypeId} {x i p : Operand} {id off len cap sz k m : Nat} {n : Int} {κ : IntKind} {v : Value} {cs old news d : List Value} {s : Value} {c : Call}
theorem do_op (ho : ∀ c, o.op ≠ .call c) : doOp P call e h o = aop P e h o.op := by
 unfold doOp
 split
 ·rename_i c hc; exact absurd hc (ho c)
 ·rfl
theorem x_index (ho : o.op = .indexAddr t x i) (hx : ev e x = some (.slice (some ⟨id, off, none⟩) len cap)) (hi : ev e i = some (.int κ n)) (hu : P.underlying t = some (.slice el)) (hs : szOf P el = some sz)
  (h0 : 0 ≤ n) (h1 : n < len) : doOp P call e h o = some (.pointer (some ⟨id, off + n.toNat * sz, none⟩), h) := by
 rw [do_op (by rw [ho]; simp), ho]
 simp only [aop, hx, hi, indexAddrV, hu, hs, if_pos (And.intro h0 h1), Option.map_some]
theorem x_indexA (ho : o.op = .indexAddr t x i) {len : Nat} (hx : ev e x = some (.pointer (some ⟨id, off, none⟩))) (hi : ev e i = some (.int κ n)) (hu : P.underlying t = some (.array len el)) (hs : szOf P el = some sz)
  (h0 : 0 ≤ n) (h1 : n < len) : doOp P call e h o = some (.pointer (some ⟨id, off + n.toNat * sz, none⟩), h) := by
 rw [do_op (by rw [ho]; simp), ho]
 simp only [aop, hx, hi, indexAddrV, hu, hs, if_pos (And.intro h0 h1), Option.map_some]
theorem x_loadA (ho : o.op = .load t x) (hx : ev e x = some (.pointer (some ⟨id, off, none⟩))) (hg : aggOf P t = some true) (hs : szOf P t = some k) (hl : loadC h id off k = some cs) :
  doOp P call e h o = some (.agg ⟨cs⟩, h) := by
 rw [do_op (by rw [ho]; simp), ho]
 simp only [aop, hx, loadV, hg, hs, hl, Option.map_some]
theorem x_load1 (ho : o.op = .load t x) (hx : ev e x = some (.pointer (some ⟨id, off, none⟩))) (hg : aggOf P t = some false) (hl : loadC h id off 1 = some [v]) :
  doOp P call e h o = some (v, h) := by
 rw [do_op (by rw [ho]; simp), ho]
 simp only [aop, hx, loadV, hg, hl, Option.map_some]
theorem x_len {ad : Option Addr} (ho : o.op = .call c) (hc : c.callee = .builtin .len) (ha : evs e c.args.toList = some [.slice ad len cap]) (ht : c.argTypes[0]? = some t) (hu : P.underlying t = some (.slice el)) :
  doOp P call e h o = some (.int .i64 len, h) := by
 unfold doOp
 rw [ho]
 simp only [doCall, ha, hc, abuiltin, lenV, ht, hu, Option.map_some]
 rfl
def TyI (P : Program) (el : TypeId) (sz by' : Nat) : Prop := ∃ i, P.info? el = some i ∧ i.size = sz ∧ i.bytes = by' ∧ i.zero.map (fun z => z.cells.size) = some sz
theorem a_nil {by' : Nat} (hu : P.underlying t = some (.slice el)) (hi : TyI P el sz by') (h0 : 0 < sz) (hn : news.length = m * sz) (hb : 2 * m * by' ≤ 281474976710656) (hm : m < BIG) (ho : news.all oneC = true) (hm0 : 0 < m) :
  appendV P h t (.slice none 0 0) m news = some (.slice (some ⟨h.next, 0, none⟩) m (m + sz), ⟨h.t.set h.next (.row news h.next BIG false news.length), h.next + 1, h.wr⟩) := by
 obtain ⟨i, i1, i2, i3, i4⟩ := hi
 subst i2; subst i3
 unfold appendV
 simp only [hu, i1, Nat.zero_add]
 rw [if_pos ⟨h0, hn, hb, hm, ho, i4⟩, if_neg (by omega)]
 simp only [and_self, if_true]
 rfl
theorem a_own {by' n0 : Nat} {low : Nat} (hu : P.underlying t = some (.slice el)) (hi : TyI P el sz by') (h0 : 0 < sz) (hn : news.length = m * sz) (hb : 2 * (len + m) * by' ≤ 281474976710656) (hm : len + m < BIG) (ho : news.all oneC = true) (hm0 : 0 < m)
  (hr : h.t.get id = some (.row d id low false n0)) (hn0 : n0 = d.length) (hd : d.length = len * sz) :
  appendV P h t (.slice (some ⟨id, 0, none⟩) len (len + sz)) m news =
   some (.slice (some ⟨h.next, 0, none⟩) (len + m) (len + m + sz), ⟨(h.t.set id (.row (d ++ news) h.next low false n0)).set h.next (.alias id 0 (len * sz + news.length)), h.next + 1, min h.wr id⟩) := by
 obtain ⟨i, i1, i2, i3, i4⟩ := hi
 subst i2; subst i3
 have hf := fam_row hr
 have hl : loadC h id 0 (len * i.size) = some d := l_all ⟨_, hf, rfl, rfl, by simp only [Fam.rb, if_true]; exact hn0⟩ hd.symm
 unfold appendV
 simp only [hu, i1]
 rw [if_pos ⟨h0, hn, hb, hm, ho, i4⟩, if_neg (by omega)]
 simp only [hl]
 rw [if_neg (by omega)]
 simp only [if_true, hf, hr, Bool.false_eq_true, if_false]
 rw [if_neg (by omega), List.take_of_length_le (by omega), Nat.zero_add]
theorem x_append (ho : o.op = .call c) (hc : c.callee = .builtin .append) (ha : evs e c.args.toList = some [s, v]) {u : TypeId} {x' : Value} (ht : c.argTypes[0]? = some t) (ht1 : c.argTypes[1]? = some u) (hu : isIntT P u = false)
  (hcell : cellsV P h t v = some (m, cs)) (happ : appendV P h t s m cs = some (x', h')) : doOp P call e h o = some (x', h') := by
 unfold doOp
 rw [ho]
 simp only [doCall, ha, hc, abuiltin, ht, ht1, hu, hcell, happ, Bool.false_eq_true, if_false]
theorem x_appendZ (ho : o.op = .call c) (hc : c.callee = .builtin .append) {n : Int} (ha : evs e c.args.toList = some [s, .int .i64 n]) {u : TypeId} {k0 : IntKind} {x' z : Value} {j : TypeInfo} (ht : c.argTypes[0]? = some t) (ht1 : c.argTypes[1]? = some u) (hui : P.underlying u = some (.int k0)) (hut : P.underlying t = some (.slice el)) (hj : P.info? el = some j) (hz : j.zero = some z) (hzf : free1 z = true) (h0 : 0 ≤ n) (h1 : n ≤ 4611686018427387904) (h2 : n * j.bytes ≤ 281474976710656)
  (happ : appendV P h t s n.toNat (zerosC z.cells.toList n.toNat) = some (x', h')) : doOp P call e h o = some (x', h') := by
 have hi : isIntT P u = true := by unfold isIntT; rw [hui]
 have hzv : zerosV P t u (.int .i64 n) = some (n.toNat, zerosC z.cells.toList n.toNat) := by
  unfold zerosV
  simp only [hui, hut, hj, hz]
  rw [if_pos ⟨hzf, h0, h1, h2⟩]
 unfold doOp
 rw [ho]
 simp only [doCall, ha, hc, abuiltin, ht, ht1, hi, hzv, happ, if_true]
theorem whole_row {low n0 : Nat} {ro : Bool} (hr : h.t.get id = some (.row d id low ro n0)) (hn : n0 = d.length) : Whole h id d :=
 ⟨_, fam_row hr, rfl, rfl, by simp only [Fam.rb, if_true]; exact hn⟩
theorem splice_all {d vs : List Value} (hl : vs.length = d.length) : splice d 0 vs = vs := by
 unfold splice
 rw [Nat.zero_add, hl, List.drop_length, List.take_zero, List.append_nil, List.nil_append]
theorem splice_len {d vs : List Value} {off : Nat} (hl : off + vs.length ≤ d.length) : (splice d off vs).length = d.length := by
 unfold splice
 simp only [List.length_append, List.length_take, List.length_drop]
 omega
theorem x_storeP {low n0 : Nat} {vs : List Value} (ho : o.op = .store t p x) (hp : ev e p = some (.pointer (some ⟨id, off, none⟩))) (hv : ev e x = some v) (hc : v.cells.toList = vs) (hs : szOf P t = some k) (hk : vs.length = k)
  (hr : h.t.get id = some (.row d id low false n0)) (hn : n0 = d.length) (hl : off + k ≤ d.length) (h1 : vs.all oneC = true) :
  doOp P call e h o = some (undef, ⟨h.t.set id (.row (splice d off vs) id low false (splice d off vs).length), h.next, min h.wr id⟩) := by
 rw [do_op (by rw [ho]; simp), ho]
 have hsz : v.cells.size = k := by rw [← Array.length_toList, hc, hk]
 have hf := fam_row hr
 simp only [aop, hp, hv, storeV, hs, hsz, if_true, storeC, hf, hc, h1, and_true, hr]
 rw [if_pos ⟨trivial, trivial, Nat.zero_le _, by omega⟩, splice_len (by omega), hn]
 rfl
theorem x_store {low n0 : Nat} {vs : List Value} (ho : o.op = .store t p x) (hp : ev e p = some (.pointer (some ⟨id, 0, none⟩))) (hv : ev e x = some v) (hc : v.cells.toList = vs) (hs : szOf P t = some k) (hk : vs.length = k)
  (hr : h.t.get id = some (.row d id low false n0)) (hn : n0 = k) (hl : k = d.length) (h1 : vs.all oneC = true) :
  doOp P call e h o = some (undef, ⟨h.t.set id (.row vs id low false vs.length), h.next, min h.wr id⟩) := by
 rw [x_storeP ho hp hv hc hs hk hr (by omega) (by omega) h1, splice_all (by omega)]
theorem x_box (ho : o.op = .box t x) (hx : ev e x = some v) (hc : v.cells.toList = cs) : doOp P call e h o = some (.pointer (some ⟨h.next, 0, none⟩), ⟨h.t.set h.next (.row cs h.next BIG false cs.length), h.next + 1, h.wr⟩) := by
 rw [do_op (by rw [ho]; simp), ho]
 simp only [aop, hx, Option.map_some, newRow, hc]
theorem x_move (ho : o.op = .move x) (hx : ev e x = some v) : doOp P call e h o = some (v, h) := by
 rw [do_op (by rw [ho]; simp), ho]
 simp only [aop, hx, Option.map_some]
theorem x_assign (ho : o.op = .assign x) (hx : ev e x = some v) : doOp P call e h o = some (v, h) := by
 rw [do_op (by rw [ho]; simp), ho]
 simp only [aop, hx, Option.map_some]
theorem x_bin {op : BinOp} {y : Operand} {a b u : Value} {t' : TypeId} (ho : o.op = .binOp op t x y t') (hx : ev e x = some a) (hy : ev e y = some b) (hb : binV P op t x y a b = some u) : doOp P call e h o = some (u, h) := by
 rw [do_op (by rw [ho]; simp), ho]
 simp only [aop, hx, hy, hb, Option.map_some]
theorem x_pick {y z : Operand} {q : Bool} (ho : o.op = .pick x y z) (hx : ev e x = some (.bool q)) (hy : ev e (if q then y else z) = some v) : doOp P call e h o = some (v, h) := by
 rw [do_op (by rw [ho]; simp), ho]
 simp only [aop, hx, hy, Option.map_some]
theorem ev_tmp {t : Nat} : ev e (.tmp t) = e.get t := rfl
theorem x_bslice1 {z : Value} (ho : o.op = .buildSlice t 1 #[(0, x)]) (hx : ev e x = some v) (hc : v.cells.toList = cs) (hu : P.underlying t = some (.slice el)) (hs : szOf P el = some sz) (hz : (P.info? el).bind (·.zero) = some z) (h0 : 0 < sz)
  (hzs : z.cells.size = sz) (hzf : free1 z = true) (hl : cs.length = sz) (hb : sz ≤ 16777216) : doOp P call e h o = some (.slice (some ⟨h.next, 0, none⟩) 1 1, ⟨h.t.set h.next (.row cs h.next BIG false cs.length), h.next + 1, h.wr⟩) := by
 rw [do_op (by rw [ho]; simp), ho]
 have hsz : v.cells.size = sz := by rw [← Array.length_toList, hc, hl]
 have hzl : z.cells.toList.length = sz := by rw [Array.length_toList, hzs]
 have hfill : Instr.fill (fun i => some (i * sz, sz)) ⟨zerosC z.cells.toList 1⟩ [(0, v)] = some ⟨cs⟩ := by
  simp only [Instr.fill, zerosC, List.append_nil, Nat.zero_mul, Nat.zero_add]
  have hlt : ¬ (v.cells.size ≠ sz ∨ v.cells.size > (⟨z.cells.toList⟩ : Array Value).size) := by
   rw [hsz]; simp [hzs]
  rw [if_neg (by simpa using hlt)]
  congr 1
  exact fill_all (hl.trans hzl.symm) hc
 simp only [aop, evP, hx, hu, hs, hz, Nat.one_mul]
 rw [if_pos ⟨hb, hzs, h0, hzf⟩]
 simp only [hfill, newRow]
theorem cells_row (hu : P.underlying t = some (.slice el)) (hs : szOf P el = some sz) (hl : loadC h id off (len * sz) = some cs) : cellsV P h t (.slice (some ⟨id, off, none⟩) len cap) = some (len, cs) := by
 unfold cellsV
 simp only [hu, hs, hl, Option.map_some]
theorem x_call {f : FuncId} {a1 a2 : Array Value} {vs : List Value} {y : Operand} (ho : o.op = .call c) (hc : c.callee = .value y) (hy : ev e y = some (.func (.func f) a1 a2)) (ha : evs e c.args.toList = some vs)
  (hcall : call (.func f) (a1.toList ++ vs ++ a2.toList) h = some (v, h')) : doOp P call e h o = some (v, h') := by
 unfold doOp
 rw [ho]
 simp only [doCall, ha, hc, hy, hcall]
end ops
end Go.AM
namespace Go.AM
theorem named_all {P : Program} (h : (P.funcs.toList.all fun fn => !fn.body.isSome || !(fn.name == "runtime.NumGoroutine")) = true) : Named P := by
 intro f fn hf hb
 have := List.all_eq_true.1 h fn (List.mem_of_getElem? (by rw [Array.getElem?_toList]; exact hf))
 rw [hb] at this
 simpa using this
section
variable {P : Program} {call : Call'} {ops : Array Oper} {o : Oper} {e : Tr Value} {h : AH} {l : List Oper} {st : St} {K : St → Prop} {KD : St → List Inf → Prop} {acc : List Inf} {j t : Nat} {q w : Bool}
theorem wA_none (hg : o.guard = none) : wantedA ops e o = some true := by unfold wantedA; rw [hg]
theorem wA_on (hg : o.guard = some (j, w)) (hd : (ops[j]?).bind (·.dst) = some t) (he : e.get t = some (.bool w)) : wantedA ops e o = some true := by
 unfold wantedA; rw [hg]; simp only [hd, he, beq_self_eq_true]
theorem wA_off (hg : o.guard = some (j, w)) (hd : (ops[j]?).bind (·.dst) = some t) (he : e.get t = some (.bool q)) (hq : (q == w) = false := by rfl) : wantedA ops e o = some false := by
 unfold wantedA; rw [hg]; simp only [hd, he, hq]
theorem o_guard (_hg : o.guard = some (j, w)) (_hd : (ops[j]?).bind (·.dst) = some t) {sz : Nat} (_he : e.get t = some (.bool q)) (k1 : q = true → OpsK P call ops (o :: l) ⟨e, sz, h⟩ K) (k2 : q = false → OpsK P call ops (o :: l) ⟨e, sz, h⟩ K) :
  OpsK P call ops (o :: l) ⟨e, sz, h⟩ K := by
 cases q with
 | true => exact k1 rfl
 | false => exact k2 rfl
theorem d_guard (_hg : o.guard = some (j, w)) (_hd : (ops[j]?).bind (·.dst) = some t) {sz : Nat} (_he : e.get t = some (.bool q)) (k1 : q = true → DrawK P call ops (o :: l) ⟨e, sz, h⟩ acc KD) (k2 : q = false → DrawK P call ops (o :: l) ⟨e, sz, h⟩ acc KD) :
  DrawK P call ops (o :: l) ⟨e, sz, h⟩ acc KD := by
 cases q with
 | true => exact k1 rfl
 | false => exact k2 rfl
theorem do_op_fieldAddr {T : TypeId} {x : Operand} {i : Nat} (ho : o.op = .fieldAddr T x i) : doOp P call e h o = (match ev e x with | some p => (fieldAddrV P T p i).map (·, h) | none => none) := by
 rw [do_op (by rw [ho]; simp), ho]; rfl
theorem do_op_unOp {u : UnOp} {T : TypeId} {x : Operand} (ho : o.op = .unOp u T x) : doOp P call e h o = (match ev e x with | some v => if free1 v then (keep (quick P (Op.unary u v))).map (·, h) else none | none => none) := by
 rw [do_op (by rw [ho]; simp), ho]; rfl
theorem do_op_convert {S T : TypeId} {x : Operand} (ho : o.op = .convert S T x) : doOp P call e h o = (match ev e x with | some v => if free1 v then (keep (quick P (convert S T v))).map (·, h) else none | none => none) := by
 rw [do_op (by rw [ho]; simp), ho]; rfl
theorem do_op_alloc {T : TypeId} (ho : o.op = .alloc T) : doOp P call e h o = (match (P.info? T).bind (·.zero) with | some z => if free1 z then some (newRow h z.cells.toList) else none | none => none) := by
 rw [do_op (by rw [ho]; simp), ho]; rfl
theorem do_op_extract {x : Operand} {i : Nat} (ho : o.op = .extract x i) : doOp P call e h o = (match ev e x with | some v => (quick P (Instr.extract v i)).map (·, h) | none => none) := by
 rw [do_op (by rw [ho]; simp), ho]; rfl
theorem x_not {T : TypeId} {x : Operand} {b : Bool} (ho : o.op = .unOp .not T x) (hx : ev e x = some (.bool b)) : doOp P call e h o = some (.bool (!b), h) := by
 rw [do_op_unOp ho, hx]; rfl
theorem x_neg {T : TypeId} {x : Operand} {κ : IntKind} {n : Int} (ho : o.op = .unOp .neg T x) (hx : ev e x = some (.int κ n)) : doOp P call e h o = some (.int κ (κ.wrap (0 - n)), h) := by
 rw [do_op_unOp ho, hx]; rfl
theorem x_convI {S T : TypeId} {x : Operand} {κ κ' : IntKind} {n : Int} {u : TypeDesc} (ho : o.op = .convert S T x) (hx : ev e x = some (.int κ n)) (hs : P.underlying S = some u) (hd : P.underlying T = some (.int κ')) : doOp P call e h o = some (.int κ' (κ'.wrap n), h) := by
 rw [do_op_convert ho, hx]
 simp only [c_int hs hd]
 rfl
theorem x_alloc {T : TypeId} {z : Value} {cs : List Value} (ho : o.op = .alloc T) (hz : (P.info? T).bind (·.zero) = some z) (hf : free1 z = true) (hc : z.cells.toList = cs) :
  doOp P call e h o = some (.pointer (some ⟨h.next, 0, none⟩), ⟨h.t.set h.next (.row cs h.next BIG false cs.length), h.next + 1, h.wr⟩) := by
 rw [do_op_alloc ho, hz]
 simp only [hf, if_true, newRow, hc]
theorem x_field {T : TypeId} {x : Operand} {i : Nat} {id off off' k : Nat} {fs : Array Field} {f : Field} (ho : o.op = .fieldAddr T x i) (hx : ev e x = some (.pointer (some ⟨id, off, none⟩))) (hu : P.underlying T = some (.struct fs)) (hf : fs[i]? = some f) (hs : szOf P f.type = some (k + 1))
  (hoff : off + f.offset = off') : doOp P call e h o = some (.pointer (some ⟨id, off', none⟩), h) := by
 rw [do_op_fieldAddr ho, hx]
 simp only [fieldAddrV, hu, hf, hs, Option.map_some, hoff]
theorem x_boxA {T : TypeId} {x : Operand} {cs : List Value} (ho : o.op = .box T x) (hx : ev e x = some (.agg ⟨cs⟩)) : doOp P call e h o = some (.pointer (some ⟨h.next, 0, none⟩), ⟨h.t.set h.next (.row cs h.next BIG false cs.length), h.next + 1, h.wr⟩) := x_box ho hx rfl
theorem x_box1 {T : TypeId} {x : Operand} {v : Value} (ho : o.op = .box T x) (hx : ev e x = some v) (hc : v.cells.toList = [v]) : doOp P call e h o = some (.pointer (some ⟨h.next, 0, none⟩), ⟨h.t.set h.next (.row [v] h.next BIG false 1), h.next + 1, h.wr⟩) := x_box ho hx hc
theorem x_storeA {T : TypeId} {p x : Operand} {id k low n0 : Nat} {vs d : List Value} (ho : o.op = .store T p x) (hp : ev e p = some (.pointer (some ⟨id, 0, none⟩))) (hv : ev e x = some (.agg ⟨vs⟩)) (hs : szOf P T = some k) (hk : vs.length = k)
  (hr : h.t.get id = some (.row d id low false n0)) (hn : n0 = k) (hl : k = d.length) (h1 : vs.all oneC = true) :
  doOp P call e h o = some (undef, ⟨h.t.set id (.row vs id low false vs.length), h.next, min h.wr id⟩) := x_store ho hp hv rfl hs hk hr hn hl h1
theorem x_bsliceA {t el : TypeId} {x : Operand} {sz : Nat} {cs : List Value} {z : Value} (ho : o.op = .buildSlice t 1 #[(0, x)]) (hx : ev e x = some (.agg ⟨cs⟩)) (hu : P.underlying t = some (.slice el)) (hs : szOf P el = some sz) (hz : (P.info? el).bind (·.zero) = some z) (h0 : 0 < sz)
  (hzs : z.cells.size = sz) (hzf : free1 z = true) (hl : cs.length = sz) (hb : sz ≤ 16777216) : doOp P call e h o = some (.slice (some ⟨h.next, 0, none⟩) 1 1, ⟨h.t.set h.next (.row cs h.next BIG false cs.length), h.next + 1, h.wr⟩) := x_bslice1 ho hx rfl hu hs hz h0 hzs hzf hl hb
theorem x_bsliceV {t el : TypeId} {x : Operand} {v : Value} {z : Value} (ho : o.op = .buildSlice t 1 #[(0, x)]) (hx : ev e x = some v) (hc : v.cells.toList = [v]) (hu : P.underlying t = some (.slice el)) (hs : szOf P el = some 1) (hz : (P.info? el).bind (·.zero) = some z)
  (hzs : z.cells.size = 1) (hzf : free1 z = true) : doOp P call e h o = some (.slice (some ⟨h.next, 0, none⟩) 1 1, ⟨h.t.set h.next (.row [v] h.next BIG false 1), h.next + 1, h.wr⟩) := x_bslice1 ho hx hc hu hs hz (by decide) hzs hzf rfl (by decide)
theorem x_extract {x : Operand} {i : Nat} {vs : List Value} {v : Value} (ho : o.op = .extract x i) (hx : ev e x = some (.tuple ⟨vs⟩)) (hv : vs[i]? = some v) : doOp P call e h o = some (v, h) := by
 rw [do_op_extract ho, hx]
 have : quick P (Instr.extract (.tuple ⟨vs⟩) i) = some v := by
  have e1 : quick P (Instr.extract (.tuple ⟨vs⟩) i) = quick P (match (⟨vs⟩ : Array Value)[i]? with | some v => pure v | none => stuck _) := rfl
  rw [e1, List.getElem?_toArray, hv]; rfl
 simp only [this, Option.map_some]
end
section
variable {P : Program} {h0 : AH} {c x y : Code} {fr : List Frm} {e : Tr Value} {sz nx wr : Nat} {Q : Ex → St → Prop} {slots : List Nat} {vals : List Value} {os : List AObj} {t : Tr AObj} {st : St} {o : Operand}
theorem k_cst (he : mkE slots vals = e) (ht : Tr.ofList os 0 .leaf = t) (hn : os.length = nx) (k : TriK P h0 c fr ⟨e, sz, ⟨t, nx, wr⟩⟩ Q) : TriK P h0 c fr (cst sz slots vals os wr) Q := by
 subst he; subst ht; subst hn; exact k
theorem k_condT (hc : ev st.e o = some (.bool true)) (k : TriK P h0 x fr st Q) : TriK P h0 (.cond o x y) fr st Q := k_cond hc (fun _ => k) (fun h => by cases h)
theorem k_condF (hc : ev st.e o = some (.bool false)) (k : TriK P h0 y fr st Q) : TriK P h0 (.cond o x y) fr st Q := k_cond hc (fun h => by cases h) (fun _ => k)
theorem to_mk {L : List Nat} {h : AH} {w : Nat} (h1 : gcOk h0.next h L = true) (h2 : gcVs (posOf L) e slots = some vals) (h3 : gcH h0.next (posOf L) h 0 L = some os) (h4 : Nat.ble w h.wr = true) : To h0 ⟨e, sz, h⟩ (cst sz slots vals os w) :=
 ⟨L, slots, vals, os, w, h1, h2, h3, h4, rfl⟩
theorem gives_mk {L : List Nat} {h : AH} {w : Nat} {fn : Func} {vs : List Value} {ex : Ex} {v : Value} (hex : ex = .normal ∨ ex = .ret) (h1 : gcOk h0.next h L = true) (h2 : gcVs (posOf L) e slots = some vals) (h3 : gcH h0.next (posOf L) h 0 L = some os) (h4 : Nat.ble w h.wr = true)
  (h5 : resA P (cst sz slots vals os w) fn.results.toList = some vs) (h6 : one vs = v) : Gives' P fn h0 v ⟨Tr.ofList os 0 .leaf, os.length, w⟩ ex ⟨e, sz, h⟩ :=
 .inl ⟨L, slots, vals, os, w, vs, hex, h1, h2, h3, h4, h5, h6, rfl⟩
theorem gives_mk2 {L : List Nat} {h : AH} {w : Nat} {fn : Func} {vs : List Value} {ex : Ex} {v : Value} (hex : ex = .normal ∨ ex = .ret) (h1 : gcOk h0.next h L = true) (h5 : resA P ⟨e, sz, h⟩ fn.results.toList = some vs) (h6 : gcV (posOf L) 9 (one vs) = some v)
  (h3 : gcH h0.next (posOf L) h 0 L = some os) (h4 : Nat.ble w h.wr = true) : Gives' P fn h0 v ⟨Tr.ofList os 0 .leaf, os.length, w⟩ ex ⟨e, sz, h⟩ :=
 .inr ⟨L, os, w, vs, hex, h1, h5, h6, h3, h4, rfl⟩
end
section
variable {k : Nat} {pos : Nat → Option Nat} {h : AH} {j id : Nat} {o : AObj} {L : List Nat} {l : List AObj} {d d' : List Value} {low n0 n r : Nat} {ro : Bool}
theorem mapD_len (hd : gcD pos d = some d') : d.length = d'.length := by
 unfold gcD at hd
 split at hd
 ·cases hd; rfl
 ·exact (mapM_some hd).1.symm
theorem gcH_nil : gcH k pos h j [] = some [] := rfl
theorem gcH_cons (h1 : gcO k pos h j id = some o) (h2 : gcH k pos h (j + 1) L = some l) : gcH k pos h j (id :: L) = some (o :: l) := by
 simp only [gcH, h1, h2]
theorem gcO_old (hj : (Nat.blt j k && Nat.blt j h.wr) = true) (hg : h.t.get id = some (.row d r low ro n0)) : gcO k pos h j id = some (.row d r low ro n0) := by
 simp only [Bool.and_eq_true, Nat.blt_eq] at hj
 unfold gcO
 rw [if_pos hj, hg]
theorem gcO_row (hj : Nat.ble k j = true) (hg : h.t.get id = some (.row d id low ro n0)) (hd : gcD pos d = some d') : gcO k pos h j id = some (.row d' j BIG ro d'.length) := by
 have hj := Nat.le_of_ble_eq_true hj
 have hl := (mapD_len hd)
 unfold gcO
 rw [if_neg (by omega), hg]
 simp only
 rw [if_neg (by omega)]
 simp only [if_true, hd, hl]
 rfl
theorem gcO_alias (hj : Nat.ble k j = true) (hg : h.t.get id = some (.alias r 0 n)) (hr : h.t.get r = some (.row d id low ro n0)) (hd : gcD pos d = some d') : gcO k pos h j id = some (.row d' j BIG ro d'.length) := by
 have hj := Nat.le_of_ble_eq_true hj
 have hl := (mapD_len hd)
 unfold gcO
 rw [if_neg (by omega), hg]
 simp only
 rw [if_neg (by omega), fam_alias hg hr]
 simp only [if_true, hd, hl]
 rfl
theorem gcO_map {es es' : List MapEntry} {ck : Nat} (hj : Nat.ble k j = true) (hg : h.t.get id = some (.map es ck)) (hd : gcM pos es = some es') : gcO k pos h j id = some (.map es' ck) := by
 have hj := Nat.le_of_ble_eq_true hj
 unfold gcO
 rw [if_neg (by omega), hg]
 simp only [hd, Option.map_some]
theorem gcD_free (hf : d.all free1 = true) : gcD pos d = some d := by unfold gcD; rw [if_pos hf]
theorem gcVs_nil {e : Tr Value} : gcVs pos e [] = some [] := rfl
theorem gcVs_cons {e : Tr Value} {t : Nat} {ts : List Nat} {v v' : Value} {vs : List Value} (h1 : e.get t = some v) (h2 : gcV pos 9 v = some v') (h3 : gcVs pos e ts = some vs) : gcVs pos e (t :: ts) = some (v' :: vs) := by
 simp only [gcVs, h1, h2, h3, Option.map_some]
theorem gcV_free {v : Value} {d : Nat} (hf : free1 v = true) : gcV pos (d + 1) v = some v := by
 unfold gcV; rw [if_pos hf]
theorem gcV_agg {cs : List Value} {ks : List Lk} (hc : cf ks cs = true) {d : Nat} : gcV pos (d + 1) (.agg ⟨cs⟩) = some (.agg ⟨cs⟩) := gcV_free (cf_free0 hc)
theorem gcV_slice {d id off n c j : Nat} (hp : pos id = some j) : gcV pos (d + 1) (.slice (some ⟨id, off, none⟩) n c) = some (.slice (some ⟨j, off, none⟩) n c) := by
 simp only [gcV, free1, free0, Bool.false_eq_true, if_false, hp, Option.map_some]
theorem gcV_ptr {d id off j : Nat} (hp : pos id = some j) : gcV pos (d + 1) (.pointer (some ⟨id, off, none⟩)) = some (.pointer (some ⟨j, off, none⟩)) := by
 simp only [gcV, free1, free0, Bool.false_eq_true, if_false, hp, Option.map_some]
theorem gcV_map {d id j : Nat} (hp : pos id = some j) : gcV pos (d + 1) (.map (some id)) = some (.map (some j)) := by
 simp only [gcV, free1, free0, Bool.false_eq_true, if_false, hp, Option.map_some]
end
end Go.AM
namespace Go.AM
inductive Sh where
 | fr
 | fn
 | sl (k : Nat)
 | ag (ks : List Nat)
def canonS (H : AH) (i k : Nat) : Value → Option (Value × List Value)
 | .slice none 0 0 => some (.slice none 0 0, [])
 | .slice (some ⟨id, off, none⟩) n c =>
  if 0 < k ∧ (c = n ∨ c = n + k) then
   match loadC H id off (n * k) with
   | some cs => if cs.all free0 then some (.slice (some ⟨i, 0, none⟩) n (n + k), cs) else none
   | none => none
  else none
 | _ => none
def canonK (H : AH) : Nat → List Nat → List Value → Option (List Value × List (List Value))
 | _, [], [] => some ([], [])
 | i, k :: ks, v :: vs =>
  match canonS H i k v, canonK H (i + 1) ks vs with
  | some (u, c), some (us, cs) => some (u :: us, c :: cs)
  | _, _ => none
 | _, _, _ => none
def canonL (H : AH) : Nat → List Sh → List Value → Option (List Value × List (List Value))
 | _, [], [] => some ([], [])
 | i, .fr :: ss, v :: vs =>
  if free1 v then
   match canonL H i ss vs with
   | some (us, cs) => some (v :: us, cs)
   | none => none
  else none
 | i, .fn :: ss, v :: vs =>
  match v, canonL H i ss vs with
  | .func (.func f) ⟨[]⟩ ⟨[]⟩, some (us, cs) => some (.func (.func f) ⟨[]⟩ ⟨[]⟩ :: us, cs)
  | _, _ => none
 | i, .sl k :: ss, v :: vs =>
  match canonS H i k v, canonL H (i + 1) ss vs with
  | some (u, c), some (us, cs) => some (u :: us, c :: cs)
  | _, _ => none
 | i, .ag ks :: ss, v :: vs =>
  match v with
  | .agg ⟨l⟩ =>
   match canonK H i ks l with
   | some (u, c) =>
    match canonL H (i + c.length) ss vs with
    | some (us, cs) => some (.agg ⟨u⟩ :: us, c ++ cs)
    | none => none
   | none => none
  | _ => none
 | _, _, _ => none
def roRows : Nat → List (List Value) → List AObj
 | _, [] => []
 | i, d :: r => .row d i BIG true d.length :: roRows (i + 1) r
def newRows : Nat → List (List Value) → List AObj
 | _, [] => []
 | i, d :: r => .row d i BIG false d.length :: newRows (i + 1) r
def cheap (rows : List (List Value)) : AH := ⟨Tr.ofList (roRows 0 rows) 0 .leaf, (roRows 0 rows).length, BIG⟩
def rheap (rows new : List (List Value)) : AH := ⟨Tr.ofList (roRows 0 rows ++ newRows rows.length new) 0 .leaf, (roRows 0 rows ++ newRows rows.length new).length, rows.length⟩
def addRows (H : AH) : List (List Value) → AH
 | [] => H
 | d :: r => addRows (newRow H d).2 r
def shp (k n : Nat) : Nat → Option Nat := fun id => if k ≤ id then some (n + (id - k)) else none
abbrev Spec := List Value → List (List Value) → Option (Value × List (List Value))
def flatC (ss : List Sh) (spec : Spec) (args : List Value) (H : AH) : Option (Value × AH) :=
 match canonL H 0 ss args with
 | some (us, cs) =>
  match spec us cs with
  | some (v, new) =>
   if new.all (fun d => d.all free0) then
    match gcV (shp cs.length H.next) 9 v with
    | some u => some (u, addRows H new)
    | none => none
   else none
  | none => none
 | none => none
structure Con (P : Program) (f : FuncId) (c : List Value → AH → Option (Value × AH)) : Prop where
 has : ∃ fn, P.funcs[f]? = some fn ∧ fn.body.isSome = true
 meets : ∀ args h v h', c args h = some (v, h') → Meets P (.func f) args h v h'
def tabOf : List (FuncId × (List Value → AH → Option (Value × AH))) → Call'
 | [], _, _, _ => none
 | (g, c) :: r, f, args, h =>
  match f with
  | .func f' => if f' = g then c args h else tabOf r (.func f') args h
  | _ => none
theorem tab_sound {P : Program} : ∀ {l : List (FuncId × (List Value → AH → Option (Value × AH)))}, (∀ p ∈ l, Con P p.1 p.2) → CallSound P (tabOf l)
 | [], _ => ⟨fun _ _ _ _ h => (by cases h), fun _ _ _ _ _ h => (by cases h)⟩
 | (g, c) :: r, hall => by
  have hc := hall (g, c) (List.mem_cons_self ..)
  have ih := tab_sound (P := P) (l := r) fun p hp => hall p (List.mem_cons_of_mem _ hp)
  constructor
  ·intro f args h r' hr
   simp only [tabOf] at hr
   split at hr
   ·rename_i hf; rw [hf]; exact hc.has
   ·exact ih.has _ _ _ _ hr
  ·intro f args h v h' hr
   cases f with
   | func f' =>
    simp only [tabOf] at hr
    split at hr
    ·rename_i hf; rw [hf]; exact hc.meets _ _ _ _ hr
    ·exact ih.meets _ _ _ _ _ hr
   | _ => cases hr
section
variable {P : Program} {β : Ren} {H : AH} {w : World}
theorem all_free1_mem {c : List Value} {p : Nat} {v : Value} (h : c.all free0 = true) (hp : c[p]? = some v) : free1 v = true := free0_free1 (List.all_eq_true.1 h v (List.mem_of_getElem? hp))
structure RowAt (w : World) (x : Bx) (c : List Value) : Prop where
 lo : x.lo = 0
 lt : x.g < w.heap.size
 ex : ∃ cs el fz, w.heap[x.g]? = some (.cells cs el fz) ∧ cs.size = x.z ∧ ∀ (p : Nat) (v : Value), c[p]? = some v → cs[x.s + p]? = some v
theorem loadC_inv {id off k : Nat} {cs : List Value} (h : loadC H id off k = some cs) : ∃ f, H.fam id = some f ∧ f.lo ≤ off ∧ off + k ≤ f.rb id ∧ cs = (f.data.drop off).take k := by
 unfold loadC at h
 split at h
 ·rename_i f hf
  split at h
  ·rename_i hc; cases h; exact ⟨f, hf, hc.1, hc.2, rfl⟩
  ·cases h
 ·cases h
theorem canonS_sound (hr : HR β H w) (hw : Wf H) {i k : Nat} {v v' u : Value} {c : List Value} (hv : VR β v v') (h : canonS H i k v = some (u, c)) :
  ∃ x : Option Bx, (∀ y, x = some y → RowAt w y c) ∧ c.all free0 = true ∧ ∀ β0 : Ren, β0 i = x → VR β0 u v' := by
 unfold canonS at h
 split at h
 ·cases h
  refine ⟨none, fun y hy => (by cases hy), rfl, fun β0 _ => ?_⟩
  rw [hv.free0_eq rfl]
  exact .free _ rfl
 ·rename_i id off n cp
  split at h
  case isFalse => cases h
  rename_i hk
  obtain ⟨hk0, hcp⟩ := hk
  split at h
  case h_2 => cases h
  rename_i cs hl
  split at h
  case isFalse => cases h
  rename_i hfree
  cases h
  obtain ⟨b, a', cap', hb, hblo, hcr, ha, rfl⟩ := slice_inv hv
  obtain ⟨f, hf, hlo, hrb, hcs⟩ := loadC_inv hl
  obtain ⟨hflo, bc, el, fz, hbc, hbz, hcells, _⟩ := hr.row _ _ _ hb hf
  have hclen : c.length ≤ n * k := by rw [hcs]; exact List.length_take_le _ _
  have cell : ∀ (p : Nat) (u : Value), c[p]? = some u → bc[b.s + (off - b.lo) + p]? = some u := by
   intro p u hp
   have hpl : p < n * k := by
    have := (List.getElem?_eq_some_iff.1 hp).1
    omega
   rw [hcs, List.getElem?_take_of_lt hpl, List.getElem?_drop] at hp
   obtain ⟨u', h1, h2⟩ := hcells (off + p) u (by omega) (by omega) hp
   have hu : free0 u = true := List.all_eq_true.1 hfree u (List.mem_of_getElem? (by rw [hcs, List.getElem?_take_of_lt hpl, List.getElem?_drop]; exact hp))
   rw [h2.free0_eq hu] at h1
   rw [show b.s + (off - b.lo) + p = b.s + (off + p - b.lo) by omega]
   exact h1
  have hg := (hr.dom _ _ hb).2
  have hdl : n * k ≤ c.length := by
   have h1 : f.rb id ≤ f.data.length := by
    unfold Fam.rb
    split
    ·rename_i hcur
     rw [hw.curn _ _ hf hcur]
     exact Nat.le_refl _
    ·rename_i hcur
     exact hw.stale _ _ hf hcur
   rw [hcs, List.length_take, List.length_drop]
   omega
  by_cases hz : n = 0 ∧ cp = n
  ·obtain ⟨hn0, hcpn⟩ := hz
   have hcap : cap' = 0 := by
    rcases hcr with ⟨h1, h2⟩ | ⟨e, h1, h2, _⟩ <;> omega
   have hcnil : c = [] := List.eq_nil_of_length_eq_zero (by rw [hn0] at hclen; omega)
   subst hn0
   subst hcap
   refine ⟨some ⟨b.g, 0, 0, b.z⟩, fun y hy => ?_, hfree, fun β0 hβ => ?_⟩
   ·cases hy
    exact ⟨rfl, hg, bc, el, fz, hbc, hbz, fun p v hp => by rw [hcnil] at hp; cases hp⟩
   ·exact .slice hβ (Nat.le_refl 0) (.inr ⟨k, hk0, rfl, Nat.le_refl _, by simp⟩) (.inl rfl)
  ·refine ⟨some ⟨b.g, b.s + (off - b.lo), 0, b.z⟩, fun y hy => ?_, hfree, fun β0 hβ => ?_⟩
   ·cases hy
    exact ⟨rfl, hg, bc, el, fz, hbc, hbz, cell⟩
   ·have hcr' : CapR ⟨b.g, b.s + (off - b.lo), 0, b.z⟩ 0 n (n + k) cap' := by
     rcases hcr with ⟨h1, h2⟩ | ⟨e, h1, h2, h3, h4⟩
     ·right
      refine ⟨k, hk0, rfl, by omega, ?_⟩
      have hn : 0 < n := by
       rcases Nat.eq_zero_or_pos n with h0 | h0
       ·exact absurd ⟨h0, h1⟩ hz
       ·exact h0
      have hpos : 0 < n * k := Nat.mul_pos hn hk0
      obtain ⟨u, hu⟩ : ∃ u, c[n * k - 1]? = some u := ⟨_, List.getElem?_eq_getElem (by omega)⟩
      have h5 := cell _ _ hu
      have h6 := (Array.getElem?_eq_some_iff.1 h5).1
      show b.s + (off - b.lo) + (0 - 0) + cap' * k ≤ b.z
      rw [h2]
      omega
     ·right
      have he : e = k := by omega
      subst he
      exact ⟨e, h1, rfl, h3, by simpa using h4⟩
    refine .slice hβ (Nat.le_refl 0) hcr' ?_
    rcases ha with h0 | h0
    ·exact .inl h0
    ·right
     rw [h0]
     simp [Bx.at_]
 ·cases h
def RowsAt (w : World) (xs : List (Option Bx)) (cs : List (List Value)) : Prop :=
 xs.length = cs.length ∧ ∀ (j : Nat) (x : Option Bx) (c : List Value), xs[j]? = some x → cs[j]? = some c → (∀ y, x = some y → RowAt w y c) ∧ c.all free0 = true
def Maps (β0 : Ren) (i : Nat) (xs : List (Option Bx)) : Prop := ∀ (j : Nat) (x : Option Bx), xs[j]? = some x → β0 (i + j) = x
theorem RowsAt.nil : RowsAt w [] [] := ⟨rfl, fun j x c h => by cases h⟩
theorem RowsAt.cons {x : Option Bx} {c : List Value} {xs : List (Option Bx)} {cs : List (List Value)} (h1 : ∀ y, x = some y → RowAt w y c) (h2 : c.all free0 = true) (h3 : RowsAt w xs cs) : RowsAt w (x :: xs) (c :: cs) := by
 refine ⟨by simp [h3.1], fun j x' c' hx hc => ?_⟩
 cases j with
 | zero => simp at hx hc; subst hx; subst hc; exact ⟨h1, h2⟩
 | succ j => exact h3.2 j x' c' (by simpa using hx) (by simpa using hc)
theorem RowsAt.append : ∀ {xs ys : List (Option Bx)} {cs ds : List (List Value)}, RowsAt w xs cs → RowsAt w ys ds → RowsAt w (xs ++ ys) (cs ++ ds)
 | [], ys, [], ds, _, h => h
 | [], _, _ :: _, _, h, _ => by have := h.1; simp at this
 | _ :: _, _, [], _, h, _ => by have := h.1; simp at this
 | x :: xs, ys, c :: cs, ds, h, h' => by
  have h0 := h.2 0 x c rfl rfl
  exact RowsAt.cons h0.1 h0.2 (RowsAt.append ⟨by have := h.1; simpa using this, fun j x' c' a b => h.2 (j + 1) x' c' (by simpa using a) (by simpa using b)⟩ h')
theorem Maps.head {β0 : Ren} {i : Nat} {x : Option Bx} {xs : List (Option Bx)} (h : Maps β0 i (x :: xs)) : β0 i = x := h 0 x rfl
theorem Maps.tail {β0 : Ren} {i : Nat} {x : Option Bx} {xs : List (Option Bx)} (h : Maps β0 i (x :: xs)) : Maps β0 (i + 1) xs := fun j y hy => by
 have := h (j + 1) y (by simpa using hy)
 rwa [show i + (j + 1) = i + 1 + j by omega] at this
theorem Maps.left {β0 : Ren} {i : Nat} {xs ys : List (Option Bx)} (h : Maps β0 i (xs ++ ys)) : Maps β0 i xs := fun j y hy => h j y (by rw [List.getElem?_append_left (List.getElem?_eq_some_iff.1 hy).1]; exact hy)
theorem Maps.right {β0 : Ren} {i : Nat} {xs ys : List (Option Bx)} (h : Maps β0 i (xs ++ ys)) : Maps β0 (i + xs.length) ys := fun j y hy => by
 have := h (xs.length + j) y (by rw [List.getElem?_append_right (by omega), Nat.add_sub_cancel_left]; exact hy)
 rwa [← Nat.add_assoc] at this
theorem VRl.cons_inv {v : Value} {l l' : List Value} (h : VRl β (v :: l) l') : ∃ v' m, l' = v' :: m ∧ VR β v v' ∧ VRl β l m := by
 match l', h with
 | [], h => have := h.1; simp at this
 | v' :: m, h => exact ⟨v', m, rfl, h.2 0 _ _ rfl rfl, by have := h.1; simpa using this, fun i a b x y => h.2 (i + 1) a b (by simpa using x) (by simpa using y)⟩
theorem canonK_sound (hr : HR β H w) (hw : Wf H) : ∀ {ks : List Nat} {i : Nat} {vs vs' us : List Value} {cs : List (List Value)}, VRl β vs vs' → canonK H i ks vs = some (us, cs) →
  ∃ xs, RowsAt w xs cs ∧ ∀ β0, Maps β0 i xs → VRl β0 us vs'
 | [], i, [], vs', us, cs, hv, h => by
  cases h
  have : vs' = [] := List.eq_nil_of_length_eq_zero hv.1.symm
  subst this
  exact ⟨[], RowsAt.nil, fun _ _ => .nil⟩
 | [], i, _ :: _, _, _, _, _, h => by cases h
 | _ :: _, i, [], _, _, _, _, h => by cases h
 | k :: ks, i, v :: vs, vs', us, cs, hv, h => by
  obtain ⟨v', m, rfl, hv1, hv2⟩ := hv.cons_inv
  simp only [canonK] at h
  split at h
  case h_2 => cases h
  rename_i u c us' cs' h1 h2
  cases h
  obtain ⟨x, a1, a2, a3⟩ := canonS_sound hr hw hv1 h1
  obtain ⟨xs, b1, b2⟩ := canonK_sound hr hw hv2 h2
  exact ⟨x :: xs, RowsAt.cons a1 a2 b1, fun β0 hm => .cons (a3 β0 hm.head) (b2 β0 hm.tail)⟩
theorem canonL_sound (hr : HR β H w) (hw : Wf H) : ∀ {ss : List Sh} {i : Nat} {vs vs' us : List Value} {cs : List (List Value)}, VRl β vs vs' → canonL H i ss vs = some (us, cs) →
  ∃ xs, RowsAt w xs cs ∧ ∀ β0, Maps β0 i xs → VRl β0 us vs'
 | [], i, [], vs', us, cs, hv, h => by
  cases h
  have : vs' = [] := List.eq_nil_of_length_eq_zero hv.1.symm
  subst this
  exact ⟨[], RowsAt.nil, fun _ _ => .nil⟩
 | [], i, _ :: _, _, _, _, _, h => by cases h
 | s :: _, i, [], _, _, _, _, h => by cases s <;> cases h
 | .fr :: ss, i, v :: vs, vs', us, cs, hv, h => by
  obtain ⟨v', m, rfl, hv1, hv2⟩ := hv.cons_inv
  simp only [canonL] at h
  split at h
  case isFalse => cases h
  rename_i hf
  split at h
  case h_2 => cases h
  rename_i us' cs' h2
  cases h
  obtain ⟨xs, b1, b2⟩ := canonL_sound hr hw hv2 h2
  refine ⟨xs, b1, fun β0 hm => .cons ?_ (b2 β0 hm)⟩
  rw [hv1.free1_eq hf]
  exact .of_free1 hf
 | .fn :: ss, i, v :: vs, vs', us, cs, hv, h => by
  obtain ⟨v', m, rfl, hv1, hv2⟩ := hv.cons_inv
  simp only [canonL] at h
  split at h
  case h_2 => cases h
  rename_i f us' cs' h2
  cases h
  obtain ⟨xs, b1, b2⟩ := canonL_sound hr hw hv2 h2
  refine ⟨xs, b1, fun β0 hm => .cons ?_ (b2 β0 hm)⟩
  cases hv1 with
  | free _ hf => cases hf
  | func m1 m2 m3 m4 =>
   rename_i a' c'
   have e1 : a' = ⟨[]⟩ := Array.eq_empty_of_size_eq_zero m1.symm
   have e2 : c' = ⟨[]⟩ := Array.eq_empty_of_size_eq_zero m3.symm
   subst e1; subst e2
   exact .func rfl (fun i v v' a => by simp at a) rfl (fun i v v' a => by simp at a)
 | .sl k :: ss, i, v :: vs, vs', us, cs, hv, h => by
  obtain ⟨v', m, rfl, hv1, hv2⟩ := hv.cons_inv
  simp only [canonL] at h
  split at h
  case h_2 => cases h
  rename_i u c us' cs' h1 h2
  cases h
  obtain ⟨x, a1, a2, a3⟩ := canonS_sound hr hw hv1 h1
  obtain ⟨xs, b1, b2⟩ := canonL_sound hr hw hv2 h2
  exact ⟨x :: xs, RowsAt.cons a1 a2 b1, fun β0 hm => .cons (a3 β0 hm.head) (b2 β0 hm.tail)⟩
 | .ag ks :: ss, i, v :: vs, vs', us, cs, hv, h => by
  obtain ⟨v', m, rfl, hv1, hv2⟩ := hv.cons_inv
  simp only [canonL] at h
  split at h
  case h_2 => cases h
  rename_i l
  split at h
  case h_2 => cases h
  rename_i u c h1
  split at h
  case h_2 => cases h
  rename_i us' cs' h2
  cases h
  obtain ⟨l', rfl, hl⟩ : ∃ l', v' = .agg ⟨l'⟩ ∧ VRl β l l' := by
   cases hv1 with
   | free _ hf => cases hf
   | agg m1 m2 =>
    rename_i a'
    exact ⟨a'.toList, rfl, by simpa using m1, fun i v v' x y => m2 i v v' (by simpa using x) (by simpa using y)⟩
  obtain ⟨x, a1, a2⟩ := canonK_sound hr hw hl h1
  obtain ⟨xs, b1, b2⟩ := canonL_sound hr hw hv2 h2
  refine ⟨x ++ xs, a1.append b1, fun β0 hm => .cons (VRl.toArr (a2 β0 hm.left)) (b2 β0 ?_)⟩
  rw [← a1.1]
  exact hm.right
theorem roRows_get : ∀ {rows : List (List Value)} {i j : Nat}, (roRows i rows)[j]? = (rows[j]?).map fun d => .row d (i + j) BIG true d.length
 | [], i, j => by simp [roRows]
 | d :: r, i, 0 => by simp [roRows]
 | d :: r, i, j + 1 => by
  simp only [roRows, List.getElem?_cons_succ, roRows_get (rows := r) (i := i + 1), show i + 1 + j = i + (j + 1) by omega]
theorem newRows_get : ∀ {rows : List (List Value)} {i j : Nat}, (newRows i rows)[j]? = (rows[j]?).map fun d => .row d (i + j) BIG false d.length
 | [], i, j => by simp [newRows]
 | d :: r, i, 0 => by simp [newRows]
 | d :: r, i, j + 1 => by
  simp only [newRows, List.getElem?_cons_succ, newRows_get (rows := r) (i := i + 1), show i + 1 + j = i + (j + 1) by omega]
theorem roRows_len : ∀ {rows : List (List Value)} {i : Nat}, (roRows i rows).length = rows.length
 | [], _ => rfl
 | _ :: r, i => by simp [roRows, roRows_len (rows := r)]
theorem newRows_len : ∀ {rows : List (List Value)} {i : Nat}, (newRows i rows).length = rows.length
 | [], _ => rfl
 | _ :: r, i => by simp [newRows, newRows_len (rows := r)]
theorem ofList_get {os : List AObj} {j : Nat} : (Tr.ofList os 0 .leaf).get j = os[j]? := by
 rw [Tr.get_ofList]
 by_cases hi : j < os.length
 ·rw [if_pos ⟨Nat.zero_le _, by omega⟩, Nat.sub_zero]
 ·rw [if_neg (by omega), List.getElem?_eq_none (by omega)]; rfl
theorem cheap_get {rows : List (List Value)} {j : Nat} : (cheap rows).t.get j = (rows[j]?).map fun d => .row d j BIG true d.length := by
 show (Tr.ofList (roRows 0 rows) 0 .leaf).get j = _
 rw [ofList_get, roRows_get, Nat.zero_add]
theorem cheap_next {rows : List (List Value)} : (cheap rows).next = rows.length := roRows_len
theorem rheap_get {rows new : List (List Value)} {j : Nat} (hj : rows.length ≤ j) : (rheap rows new).t.get j = (new[j - rows.length]?).map fun d => .row d j BIG false d.length := by
 show (Tr.ofList (roRows 0 rows ++ newRows rows.length new) 0 .leaf).get j = _
 rw [ofList_get, List.getElem?_append_right (by rw [roRows_len]; exact hj), newRows_get, roRows_len, show rows.length + (j - rows.length) = j by omega]
theorem rheap_next {rows new : List (List Value)} : (rheap rows new).next = rows.length + new.length := by
 show (roRows 0 rows ++ newRows rows.length new).length = _
 rw [List.length_append, roRows_len, newRows_len]
theorem cheap_fam {rows : List (List Value)} {j : Nat} {f : Fam} (hf : (cheap rows).fam j = some f) : ∃ d, rows[j]? = some d ∧ f = ⟨j, 0, d.length, d, j, BIG, true⟩ := by
 unfold AH.fam at hf
 rw [cheap_get] at hf
 cases hd : rows[j]? with
 | none => rw [hd] at hf; cases hf
 | some d => rw [hd] at hf; cases hf; exact ⟨d, rfl, rfl⟩
theorem cheap_wf (rows : List (List Value)) : Wf (cheap rows) := by
 have hlt : ∀ {j : Nat} {d : List Value}, rows[j]? = some d → j < rows.length := fun h => (List.getElem?_eq_some_iff.1 h).1
 constructor
 ·intro j o ho
  rw [cheap_get] at ho
  rw [cheap_next]
  cases hd : rows[j]? with
  | none => rw [hd] at ho; cases ho
  | some d => exact hlt hd
 ·intro j f hf
  obtain ⟨d, h1, rfl⟩ := cheap_fam hf
  exact Nat.zero_le _
 ·intro j f hf _
  obtain ⟨d, h1, rfl⟩ := cheap_fam hf
  rfl
 ·intro j f hf hne
  obtain ⟨d, h1, rfl⟩ := cheap_fam hf
  exact absurd rfl hne
 ·intro j f hf
  obtain ⟨d, h1, rfl⟩ := cheap_fam hf
  rw [cheap_next]
  exact hlt h1
 ·intro j r lo n ho
  rw [cheap_get] at ho
  cases hd : rows[j]? with
  | none => rw [hd] at ho; cases ho
  | some d => rw [hd] at ho; cases ho
theorem cheap_hr {xs : List (Option Bx)} {rows : List (List Value)} (hR : RowsAt w xs rows) : HR (fun i => (xs[i]?).getD none) (cheap rows) w := by
 have at_ : ∀ {id : Nat} {x : Bx}, (xs[id]?).getD none = some x → ∃ d, rows[id]? = some d ∧ RowAt w x d ∧ d.all free0 = true := by
  intro id x hx
  cases hi : xs[id]? with
  | none => rw [hi] at hx; cases hx
  | some y =>
   rw [hi] at hx
   have hx : y = some x := hx
   subst hx
   have hl : id < rows.length := by rw [← hR.1]; exact (List.getElem?_eq_some_iff.1 hi).1
   refine ⟨rows[id], List.getElem?_eq_getElem hl, ?_⟩
   have := hR.2 id _ _ hi (List.getElem?_eq_getElem hl)
   exact ⟨this.1 x rfl, this.2⟩
 constructor
 ·intro id x hx
  obtain ⟨d, h1, h2, _⟩ := at_ hx
  rw [cheap_next]
  exact ⟨(List.getElem?_eq_some_iff.1 h1).1, h2.lt⟩
 ·intro id x f hx hf
  obtain ⟨d, h1, h2, h3⟩ := at_ hx
  obtain ⟨d', h4, rfl⟩ := cheap_fam hf
  rw [h1] at h4; cases h4
  obtain ⟨cs, el, fz, e1, e2, e3⟩ := h2.ex
  refine ⟨h2.lo, cs, el, fz, e1, e2, fun p v _ _ hp => ?_, fun hro => by cases hro⟩
  refine ⟨v, ?_, .of_free1 (all_free1_mem h3 hp)⟩
  rw [h2.lo, Nat.sub_zero]
  exact e3 p v hp
 ·intro id x es ck _ hm
  rw [cheap_get] at hm
  cases hd : rows[id]? with
  | none => rw [hd] at hm; cases hm
  | some d => rw [hd] at hm; cases hm
 ·intro id x r _ hm
  rw [cheap_get] at hm
  cases hd : rows[id]? with
  | none => rw [hd] at hm; cases hm
  | some d => rw [hd] at hm; cases hm
 ·intro id id' x x' hx hx' _
  obtain ⟨d, h1, _⟩ := at_ hx
  obtain ⟨d', h1', _⟩ := at_ hx'
  right
  refine ⟨⟨id, 0, d.length, d, id, BIG, true⟩, ⟨id', 0, d'.length, d', id', BIG, true⟩, ?_, ?_, .inr ⟨rfl, rfl⟩⟩
  ·unfold AH.fam; rw [cheap_get, h1]; rfl
  ·unfold AH.fam; rw [cheap_get, h1']; rfl
theorem addRows_next : ∀ {new : List (List Value)} {H : AH}, (addRows H new).next = H.next + new.length
 | [], H => rfl
 | d :: r, H => by
  rw [addRows, addRows_next, List.length_cons]
  show H.next + 1 + r.length = _
  omega
theorem addRows_wr : ∀ {new : List (List Value)} {H : AH}, (addRows H new).wr = H.wr
 | [], H => rfl
 | d :: r, H => by rw [addRows, addRows_wr]; rfl
theorem addRows_old : ∀ {new : List (List Value)} {H : AH} {id : Nat}, id < H.next → (addRows H new).t.get id = H.t.get id
 | [], H, id, _ => rfl
 | d :: r, H, id, h => by
  rw [addRows, addRows_old (show id < (newRow H d).2.next by show id < H.next + 1; omega)]
  exact Tr.get_set_ne _ _ (by omega)
theorem addRows_wf : ∀ {new : List (List Value)} {H : AH}, Wf H → Wf (addRows H new)
 | [], H, h => h
 | d :: r, H, h => by rw [addRows]; exact addRows_wf (wf_newRow h d)
theorem addRows_fam : ∀ {new : List (List Value)} {H : AH} {id : Nat}, Wf H → id < H.next → (addRows H new).fam id = H.fam id
 | [], H, id, _, _ => rfl
 | d :: r, H, id, hw, h => by
  rw [addRows, addRows_fam (wf_newRow hw d) (show id < (newRow H d).2.next by show id < H.next + 1; omega)]
  exact fam_set_next hw h
theorem addRows_new : ∀ {new : List (List Value)} {H : AH} {j : Nat}, Wf H → (addRows H new).t.get (H.next + j) = (new[j]?).map fun d => .row d (H.next + j) BIG false d.length
 | [], H, j, hw => by
  show H.t.get (H.next + j) = none
  cases hg : H.t.get (H.next + j) with
  | none => rfl
  | some o => have := hw.lt _ _ hg; omega
 | d :: r, H, 0, hw => by
  rw [addRows, Nat.add_zero, addRows_old (show H.next < (newRow H d).2.next by show H.next < H.next + 1; omega)]
  exact Tr.get_set_eq _ _ _
 | d :: r, H, j + 1, hw => by
  rw [addRows]
  have := addRows_new (new := r) (H := (newRow H d).2) (j := j) (wf_newRow hw d)
  have e : (newRow H d).2.next + j = H.next + (j + 1) := by show H.next + 1 + j = _; omega
  rw [e] at this
  simpa using this
theorem cheap_ro {xs : List (Option Bx)} {rows : List (List Value)} (hR : RowsAt w xs rows) {id : Nat} {x : Bx} (hx : (xs[id]?).getD none = some x) (hro : roOf (cheap rows) id = false) : False := by
 have hl : id < rows.length := by
  cases hi : xs[id]? with
  | none => rw [hi] at hx; cases hx
  | some y => rw [← hR.1]; exact (List.getElem?_eq_some_iff.1 hi).1
 have : (cheap rows).fam id = some ⟨id, 0, rows[id].length, rows[id], id, BIG, true⟩ := by
  unfold AH.fam
  rw [cheap_get, List.getElem?_eq_getElem hl]
  rfl
 unfold roOf at hro
 rw [this] at hro
 cases hro
theorem lift_sound (hr : HR β H w) (hw : Wf H) {xs : List (Option Bx)} {cs new : List (List Value)} (hR : RowsAt w xs cs) (hnew : ∀ d ∈ new, d.all free0 = true) {w' : World} {β' : Ren}
  (hr' : HR β' (rheap cs new) w') (hE : Evo (fun i => (xs[i]?).getD none) (cheap cs) w β' (rheap cs new) w') :
  HR (fun id => if id < H.next then β id else β' (cs.length + (id - H.next))) (addRows H new) w' ∧ Evo β H w (fun id => if id < H.next then β id else β' (cs.length + (id - H.next))) (addRows H new) w' := by
 have hold : ∀ b, b < w.heap.size → w'.heap[b]? = w.heap[b]? := by
  intro b hb
  rcases hE.frame b hb with h1 | ⟨id, x, k1, _, _, k4⟩
  ·exact h1
  ·exact (cheap_ro hR k1 k4).elim
 have hβ0 : ∀ j, ((xs[cs.length + j]?).getD none : Option Bx) = none := by
  intro j
  rw [List.getElem?_eq_none (by rw [hR.1]; omega)]
  rfl
 have hblk : ∀ j x, β' (cs.length + j) = some x → w.heap.size ≤ x.g ∧ j < new.length ∧ x.g < w'.heap.size := by
  intro j x hx
  have hd := hr'.dom _ _ hx
  rw [rheap_next] at hd
  refine ⟨?_, by omega, hd.2⟩
  rcases hE.blk _ _ hx (hβ0 j) with h1 | ⟨i0, x0, k1, _, _, k4⟩
  ·exact h1
  ·exact (cheap_ro hR k1 k4).elim
 have hsub : Sub β (fun id => if id < H.next then β id else β' (cs.length + (id - H.next))) := by
  intro id x hx
  have := (hr.dom _ _ hx).1
  simp only [if_pos this]
  exact hx
 have cas : ∀ {id : Nat} {x : Bx}, (if id < H.next then β id else β' (cs.length + (id - H.next))) = some x → (id < H.next ∧ β id = some x) ∨ (∃ j, id = H.next + j ∧ β' (cs.length + j) = some x) := by
  intro id x hx
  split at hx
  ·exact .inl ⟨‹_›, hx⟩
  ·exact .inr ⟨id - H.next, by omega, hx⟩
 have famN : ∀ {j : Nat} {f : Fam}, (addRows H new).fam (H.next + j) = some f → ∃ d, new[j]? = some d ∧ f = ⟨H.next + j, 0, d.length, d, H.next + j, BIG, false⟩ := by
  intro j f hf
  unfold AH.fam at hf
  rw [addRows_new hw] at hf
  cases hd : new[j]? with
  | none => rw [hd] at hf; cases hf
  | some d => rw [hd] at hf; cases hf; exact ⟨d, rfl, rfl⟩
 have famR : ∀ {j : Nat} {d : List Value}, new[j]? = some d → (rheap cs new).fam (cs.length + j) = some ⟨cs.length + j, 0, d.length, d, cs.length + j, BIG, false⟩ := by
  intro j d hd
  unfold AH.fam
  rw [rheap_get (Nat.le_add_right _ _), Nat.add_sub_cancel_left, hd]
  rfl
 have nrow : ∀ {j : Nat}, j < new.length → new[j]? = some (new.getD j []) := by
  intro j hj
  rw [List.getD_eq_getElem?_getD, List.getElem?_eq_getElem hj]; rfl
 refine ⟨⟨?_, ?_, ?_, ?_, ?_⟩, ?_⟩
 ·intro id x hx
  rw [addRows_next]
  rcases cas hx with ⟨h1, h2⟩ | ⟨j, rfl, h2⟩
  ·have := hr.dom _ _ h2
   exact ⟨by omega, Nat.lt_of_lt_of_le this.2 hE.size⟩
  ·have := hblk _ _ h2
   exact ⟨by omega, this.2.2⟩
 ·intro id x f hx hf
  rcases cas hx with ⟨h1, h2⟩ | ⟨j, rfl, h2⟩
  ·rw [addRows_fam hw h1] at hf
   exact (hr.row _ _ _ h2 hf).mono hsub (hold _ (hr.dom _ _ h2).2)
  ·obtain ⟨d, hd, rfl⟩ := famN hf
   obtain ⟨hlo, c, el, fz, e1, e2, e3, e4⟩ := hr'.row _ _ _ h2 (famR hd)
   refine ⟨hlo, c, el, fz, e1, e2, fun p v a b hp => ?_, e4⟩
   obtain ⟨v', g1, g2⟩ := e3 p v a (by simpa [Fam.rb] using b) hp
   have hf0 : free0 v = true := List.all_eq_true.1 (hnew d (List.mem_of_getElem? hd)) v (List.mem_of_getElem? hp)
   rw [g2.free0_eq hf0] at g1
   exact ⟨v, g1, .free _ hf0⟩
 ·intro id x es ck hx hm
  rcases cas hx with ⟨h1, h2⟩ | ⟨j, rfl, h2⟩
  ·rw [addRows_old h1] at hm
   obtain ⟨es', k1, k2⟩ := hr.map _ _ _ _ h2 hm
   exact ⟨es', (hold _ (hr.dom _ _ h2).2).trans k1, k2.mono hsub⟩
  ·rw [addRows_new hw, nrow (hblk _ _ h2).2.1] at hm
   cases hm
 ·intro id x r hx hm
  rcases cas hx with ⟨h1, h2⟩ | ⟨j, rfl, h2⟩
  ·rw [addRows_old h1] at hm
   obtain ⟨r', k1, k2⟩ := hr.loop _ _ _ h2 hm
   exact ⟨r', (hold _ (hr.dom _ _ h2).2).trans k1, k2.mono hsub⟩
  ·rw [addRows_new hw, nrow (hblk _ _ h2).2.1] at hm
   cases hm
 ·intro id id' x x' hx hx' hg
  rcases cas hx with ⟨h1, h2⟩ | ⟨j, rfl, h2⟩ <;> rcases cas hx' with ⟨h1', h2'⟩ | ⟨j', rfl, h2'⟩
  ·rcases hr.disj _ _ _ _ h2 h2' hg with h | ⟨f, f', k1, k2, k3⟩
   ·exact .inl h
   ·exact .inr ⟨f, f', by rw [addRows_fam hw h1]; exact k1, by rw [addRows_fam hw h1']; exact k2, k3⟩
  ·have := (hr.dom _ _ h2).2
   have := (hblk _ _ h2').1
   omega
  ·have := (hr.dom _ _ h2').2
   have := (hblk _ _ h2).1
   omega
  ·rcases hr'.disj _ _ _ _ h2 h2' hg with h | ⟨f, f', k1, k2, k3⟩
   ·left; omega
   ·have n1 := nrow (hblk _ _ h2).2.1
    have n2 := nrow (hblk _ _ h2').2.1
    rw [famR n1] at k1; cases k1
    rw [famR n2] at k2; cases k2
    rcases k3 with ⟨k3, _⟩ | ⟨k3, _⟩
    ·left
     have k3 : cs.length + j = cs.length + j' := k3
     omega
    ·cases k3
 ·exact {
   sub := hsub
   new := fun id x hx hn => by
    rcases cas hx with ⟨h1, h2⟩ | ⟨j, rfl, h2⟩
    ·rw [h2] at hn; cases hn
    ·omega
   all := fun id h1 h2 => by
    rw [addRows_next] at h2
    have := hE.all (cs.length + (id - H.next)) (by rw [cheap_next]; omega) (by rw [rheap_next]; omega)
    simp only [if_neg (show ¬ id < H.next by omega)]
    exact this
   blk := fun id x hx hn => by
    rcases cas hx with ⟨h1, h2⟩ | ⟨j, rfl, h2⟩
    ·rw [h2] at hn; cases hn
    ·exact .inl (hblk _ _ h2).1
   size := hE.size
   os := hE.os
   tape := hE.tape
   output := hE.output
   frame := fun b hb => .inl (hold b hb)
   next := by rw [addRows_next]; omega
   wr := by rw [addRows_wr]; exact Nat.le_refl _
   root := fun id h1 => by unfold rootOf; rw [addRows_fam hw h1]
   ro := fun id h1 => by unfold roOf; rw [addRows_fam hw h1]
   objs := fun id h1 _ => addRows_old h1 }
theorem con_flat {f : FuncId} {fn : Func} (hfn : P.funcs[f]? = some fn) (hb : fn.body.isSome = true) {ss : List Sh} {spec : Spec} (hm : ∀ us cs v new, spec us cs = some (v, new) → Meets P (.func f) us (cheap cs) v (rheap cs new)) :
  Con P f (flatC ss spec) := by
 refine ⟨⟨fn, hfn, hb⟩, fun args H v h' hc => ?_⟩
 unfold flatC at hc
 split at hc
 case h_2 => cases hc
 rename_i us cs hcan
 split at hc
 case h_2 => cases hc
 rename_i v0 new hspec
 split at hc
 case isFalse => cases hc
 rename_i hfree
 split at hc
 case h_2 => cases hc
 rename_i u hu
 cases hc
 intro F n β w args' hF hr hw hv
 obtain ⟨xs, hR, hmaps⟩ := canonL_sound hr hw hv hcan
 have hv0 := hmaps (fun i => (xs[i]?).getD none) (fun j x hx => by simp [hx])
 have key : CallsIn F n P f ⟨args'⟩ w (Ends' (fun i => (xs[i]?).getD none) (cheap cs) w v0 (rheap cs new)) := hm us cs v0 new hspec F n _ w args' hF (cheap_hr hR) (cheap_wf cs) hv0
 show CallsIn F n P f ⟨args'⟩ w (Ends' β H w v (addRows H new))
 refine key.mono fun e w' he => ?_
 obtain ⟨v', β', rfl, q1, q2, _, q4⟩ := he
 obtain ⟨r1, r2⟩ := lift_sound hr hw hR (fun d hd => List.all_eq_true.1 hfree d hd) q2 q4
 refine ⟨v', _, rfl, gcV_sound (fun id j hj => ?_) 9 hu q1, r1, addRows_wf hw, r2⟩
 unfold shp at hj
 split at hj
 ·cases hj
  show (if H.next + (id - cs.length) < H.next then β (H.next + (id - cs.length)) else β' (cs.length + (H.next + (id - cs.length) - H.next))) = β' id
  rw [if_neg (by omega)]
  congr 1
  omega
 ·cases hj
theorem meets_start {f : FuncId} {fn : Func} {c : Code} {rows new : List (List Value)} {args : List Value} {sz nx : Nat} {e : Tr Value} {t : Tr AObj} {v : Value} (hP : Fit P) (hfn : P.funcs[f]? = some fn) (hb : fn.body = some c)
  (hz : max args.length fn.ntmps = sz) (he : Tr.ofList args 0 .leaf = e) (ht : Tr.ofList (roRows 0 rows) 0 .leaf = t) (hn : (roRows 0 rows).length = nx)
  (k : TriK P (cheap rows) c [] ⟨e, sz, ⟨t, nx, BIG⟩⟩ (Gives' P fn (cheap rows) v (rheap rows new))) : Meets P (.func f) args (cheap rows) v (rheap rows new) := by
 subst hz; subst he; subst ht; subst hn
 exact meets_of_triK hP hfn hb k
end
end Go.AM
namespace Go.AM
def Sl (i k n : Nat) (s : Value) : Prop := (s = .slice none 0 0 ∧ n = 0) ∨ s = .slice (some ⟨i, 0, none⟩) n (n + k)
theorem Sl.shape {i k n : Nat} {s : Value} (h : Sl i k n s) : ∃ a c, s = .slice a n c := by
 rcases h with ⟨rfl, rfl⟩ | rfl <;> exact ⟨_, _, rfl⟩
theorem Sl.pos {i k n : Nat} {s : Value} (h : Sl i k n s) (hn : 0 < n) : s = .slice (some ⟨i, 0, none⟩) n (n + k) := by
 rcases h with ⟨_, rfl⟩ | h
 ·omega
 ·exact h
def slOk (i k : Nat) (c : List Value) : Value → Bool
 | .slice none 0 0 => c.isEmpty
 | .slice (some ⟨j, 0, none⟩) n m => j == i && n * k == c.length && m == n + k
 | _ => false
theorem slOk_sl {i k n : Nat} {c : List Value} {s : Value} (h : slOk i k c s = true) (hk : 0 < k) (hn : c.length = n * k) : Sl i k n s := by
 unfold slOk at h
 split at h
 ·left
  rw [List.isEmpty_iff] at h
  subst h
  refine ⟨rfl, ?_⟩
  rcases Nat.eq_zero_or_pos n with h0 | h0
  ·exact h0
  ·have := Nat.mul_pos h0 hk
   simp at hn; omega
 ·right
  rename_i j n' m
  simp only [Bool.and_eq_true, beq_iff_eq] at h
  obtain ⟨⟨rfl, h2⟩, rfl⟩ := h
  have : n' = n := Nat.eq_of_mul_eq_mul_right hk (h2.trans hn)
  rw [this]
 ·cases h
section
variable {P : Program} {call : Call'} {e : Tr Value} {h : AH} {o : Oper} {t el : TypeId} {x y : Operand} {i k n sz : Nat} {s : Value} {c : Call} {κ : IntKind} {j : Int} {pos : Nat → Option Nat}
theorem x_lenS (hs : Sl i k n s) (ho : o.op = .call c) (hc : c.callee = .builtin .len) (ha : evs e c.args.toList = some [s]) (ht : c.argTypes[0]? = some t) (hu : P.underlying t = some (.slice el)) :
  doOp P call e h o = some (.int .i64 n, h) := by
 obtain ⟨a, c', rfl⟩ := hs.shape
 exact x_len ho hc ha ht hu
theorem x_indexS (hs : Sl i k n s) (ho : o.op = .indexAddr t x y) (hx : ev e x = some s) (hi : ev e y = some (.int κ j)) (hu : P.underlying t = some (.slice el)) (hz : szOf P el = some sz) (h0 : 0 ≤ j) (h1 : j < n) :
  doOp P call e h o = some (.pointer (some ⟨i, 0 + j.toNat * sz, none⟩), h) := by
 have := hs.pos (by omega)
 subst this
 exact x_index ho hx hi hu hz h0 h1
theorem gcV_sl (hs : Sl i k n s) {d : Nat} (hp : pos i = some i) : gcV pos (d + 1) s = some s := by
 rcases hs with ⟨rfl, rfl⟩ | rfl
 ·exact gcV_free rfl
 ·exact gcV_slice hp
theorem cells_sl (hs : Sl i k n s) (hu : P.underlying t = some (.slice el)) (hz : szOf P el = some k) {d : List Value} (hw : Whole h i d) (hd : d.length = n * k) : cellsV P h t s = some (n, d) := by
 rcases hs with ⟨rfl, rfl⟩ | rfl
 ·have : d = [] := List.eq_nil_of_length_eq_zero (by omega)
  subst this; rfl
 ·exact cells_row hu hz (l_all hw hd.symm)
end
section
variable {k : Nat} {pos : Nat → Option Nat} {h : AH} {j id : Nat} {d d' dd : List Value} {low n0 n r : Nat} {ro : Bool}
theorem gcO_rowE (hj : Nat.ble k j = true) (hg : h.t.get id = some (.row d id low ro n0)) (hd : gcD pos d = some d') (he : d' = dd) : gcO k pos h j id = some (.row dd j BIG ro dd.length) := by
 subst he; exact gcO_row hj hg hd
theorem gcO_aliasE (hj : Nat.ble k j = true) (hg : h.t.get id = some (.alias r 0 n)) (hr : h.t.get r = some (.row d id low ro n0)) (hd : gcD pos d = some d') (he : d' = dd) : gcO k pos h j id = some (.row dd j BIG ro dd.length) := by
 subst he; exact gcO_alias hj hg hr hd
end
def toI : Value → Int
 | .int _ n => n
 | _ => 0
def isI : Value → Bool
 | .int .i64 _ => true
 | _ => false
def unints (c : List Value) : List Int := c.map toI
def isInts (c : List Value) : Bool := c.all isI
theorem ints_unints : ∀ {c : List Value}, isInts c = true → ints (unints c) = c
 | [], _ => rfl
 | v :: c, h => by
  simp only [isInts, List.all_cons, Bool.and_eq_true] at h
  have ih := ints_unints (c := c) h.2
  have : v = .int .i64 (toI v) := by
   cases v <;> first | (exfalso; simpa [isI] using h.1) | skip
   rename_i κ n
   cases κ <;> first | rfl | (exfalso; simpa [isI] using h.1)
  simp only [unints, ints, List.map_cons] at ih ⊢
  rw [ih, ← this]
theorem unints_ints (l : List Int) : unints (ints l) = l := by
 induction l with
 | nil => rfl
 | cons n l ih => simp only [unints, ints, List.map_cons, toI] at ih ⊢; rw [ih]
theorem isInts_ints (l : List Int) : isInts (ints l) = true := by
 rw [isInts, List.all_eq_true]
 intro v hv
 obtain ⟨n, _, rfl⟩ := List.mem_map.1 hv
 rfl
def chunks (k : Nat) (c : List Value) : List (List Value) := (List.range (c.length / k)).map fun i => (c.drop (i * k)).take k
def isRows (ks : List Lk) (c : List Value) : Bool := c.length % ks.length == 0 && (chunks ks.length c).all (cf ks)
theorem chunks_flat {k : Nat} (hk : 0 < k) : ∀ {L : List (List Value)}, (∀ x ∈ L, x.length = k) → chunks k L.flatten = L
 | [], _ => by simp [chunks]
 | x :: L, h => by
  have hx := h x (List.mem_cons_self ..)
  have ih := chunks_flat hk (L := L) fun y hy => h y (List.mem_cons_of_mem _ hy)
  have hl : (x :: L).flatten.length / k = L.flatten.length / k + 1 := by
   rw [List.flatten_cons, List.length_append, hx, Nat.add_comm, Nat.add_div_right _ hk]
  unfold chunks at ih ⊢
  rw [hl, List.range_succ_eq_map, List.map_cons, List.map_map]
  congr 1
  ·simp only [Nat.zero_mul, List.drop_zero, List.flatten_cons]
   rw [← hx, List.take_left']
   rfl
  ·conv => rhs; rw [← ih]
   apply List.map_congr_left
   intro i _
   simp only [Function.comp_apply, List.flatten_cons, Nat.succ_eq_add_one, Nat.add_mul, Nat.one_mul]
   rw [List.drop_append, List.drop_eq_nil_of_le (by omega), List.nil_append, show i * k + k - x.length = i * k by omega]
theorem flat_chunks {k : Nat} (hk : 0 < k) : ∀ (m : Nat) (c : List Value), c.length = m * k → (chunks k c).flatten = c
 | 0, c, h => by
  have : c = [] := List.eq_nil_of_length_eq_zero (by omega)
  subst this; simp [chunks]
 | m + 1, c, h => by
  rw [Nat.add_mul] at h
  have ih := flat_chunks hk m (c.drop k) (by rw [List.length_drop]; omega)
  have hl : c.length / k = (c.drop k).length / k + 1 := by
   rw [List.length_drop, ← Nat.add_div_right _ hk, Nat.sub_add_cancel (by omega)]
  unfold chunks at ih ⊢
  rw [hl, List.range_succ_eq_map, List.map_cons, List.map_map, List.flatten_cons]
  have e : ((fun i => List.take k (List.drop (i * k) c)) ∘ Nat.succ) = fun i => List.take k (List.drop (i * k) (List.drop k c)) := by
   funext i
   simp only [Function.comp_apply, Nat.succ_eq_add_one, Nat.add_mul, Nat.one_mul, List.drop_drop]
   rw [Nat.add_comm]
  rw [e, ih, Nat.zero_mul, List.drop_zero, List.take_append_drop]
theorem isRows_cfs {ks : List Lk} (hk : 0 < ks.length) {c : List Value} (h : isRows ks c = true) : cfs ks (chunks ks.length c) ∧ (chunks ks.length c).flatten = c := by
 simp only [isRows, Bool.and_eq_true, beq_iff_eq, List.all_eq_true] at h
 refine ⟨h.2, flat_chunks hk (c.length / ks.length) c ?_⟩
 have := Nat.div_add_mod c.length ks.length
 rw [h.1, Nat.mul_comm] at this
 omega
theorem isRows_flat {ks : List Lk} (hk : 0 < ks.length) {L : List (List Value)} (hL : cfs ks L) : isRows ks L.flatten = true ∧ chunks ks.length L.flatten = L := by
 have e := chunks_flat hk fun x hx => cf_len (hL x hx)
 refine ⟨?_, e⟩
 simp only [isRows, Bool.and_eq_true, beq_iff_eq]
 rw [e]
 exact ⟨by rw [cfs_len hL, Nat.mul_mod_left], List.all_eq_true.2 hL⟩
end Go.AM
namespace Go.AM
theorem sl_slOk {i k n : Nat} {c : List Value} {s : Value} (h : Sl i k n s) (hn : c.length = n * k) : slOk i k c s = true := by
 rcases h with ⟨rfl, rfl⟩ | rfl
 ·have : c = [] := List.eq_nil_of_length_eq_zero (by omega)
  subst this; rfl
 ·simp [slOk, hn]
def Rd (H : AH) (k : Nat) (s : Value) (n : Nat) (d : List Value) : Prop := ∀ j, ∃ u, canonS H j k s = some (u, d) ∧ Sl j k n u
section
variable {H : AH} {k n id i off : Nat} {s : Value} {d : List Value}
theorem rd_nil : Rd H k (.slice none 0 0) 0 [] := fun _ => ⟨_, rfl, .inl ⟨rfl, rfl⟩⟩
theorem rd_row {c : Nat} (hk : 0 < k) (hc : c = n ∨ c = n + k) (hl : loadC H id off (n * k) = some d) (hf : d.all free0 = true) : Rd H k (.slice (some ⟨id, off, none⟩) n c) n d := fun j => by
 refine ⟨.slice (some ⟨j, 0, none⟩) n (n + k), ?_, .inr rfl⟩
 simp only [canonS]
 rw [if_pos ⟨hk, hc⟩]
 simp only [hl, hf, if_true]
theorem rd_whole {c : Nat} (hk : 0 < k) (hc : c = n ∨ c = n + k) (hw : Whole H id d) (hn : n * k = d.length) (hf : d.all free0 = true) : Rd H k (.slice (some ⟨id, 0, none⟩) n c) n d := rd_row hk hc (l_all hw hn) hf
theorem rd_sl (hs : Sl i k n s) (hk : 0 < k) (hw : Whole H i d) (hn : n * k = d.length) (hf : d.all free0 = true) : Rd H k s n d := by
 rcases hs with ⟨rfl, rfl⟩ | rfl
 ·have : d = [] := List.eq_nil_of_length_eq_zero (by omega)
  subst this
  exact rd_nil
 ·exact rd_whole hk (.inr rfl) hw hn hf
end
section
variable {H : AH} {i k n : Nat} {s : Value} {d : List Value} {ss : List Sh} {vs us : List Value} {cs : List (List Value)}
theorem cl_nil : canonL H i [] [] = some ([], []) := rfl
theorem cl_fr {v : Value} (hf : free1 v = true) (h : canonL H i ss vs = some (us, cs)) : canonL H i (.fr :: ss) (v :: vs) = some (v :: us, cs) := by
 simp only [canonL, hf, if_true, h]
theorem cl_fn {f : FuncId} (h : canonL H i ss vs = some (us, cs)) : canonL H i (.fn :: ss) (.func (.func f) ⟨[]⟩ ⟨[]⟩ :: vs) = some (.func (.func f) ⟨[]⟩ ⟨[]⟩ :: us, cs) := by
 simp only [canonL, h]
theorem cl_sl {u : Value} (h1 : canonS H i k s = some (u, d)) (h : canonL H (i + 1) ss vs = some (us, cs)) : canonL H i (.sl k :: ss) (s :: vs) = some (u :: us, d :: cs) := by
 simp only [canonL, h1, h]
theorem cl_ag2 {k' : Nat} {s' u u' : Value} {d' : List Value} (h1 : canonS H i k s = some (u, d)) (h2 : canonS H (i + 1) k' s' = some (u', d')) (h : canonL H (i + 2) ss vs = some (us, cs)) :
  canonL H i (.ag [k, k'] :: ss) (.agg ⟨[s, s']⟩ :: vs) = some (.agg ⟨[u, u']⟩ :: us, d :: d' :: cs) := by
 simp only [canonL, canonK, h1, h2]
 rw [show i + [d, d'].length = i + 2 from rfl, h]
 rfl
theorem flatC_at {spec : Spec} {v u : Value} {new : List (List Value)} (h1 : canonL H 0 ss vs = some (us, cs)) (h2 : spec us cs = some (v, new)) (h3 : new.all (fun d => d.all free0) = true) (h4 : gcV (shp cs.length H.next) 9 v = some u) :
  flatC ss spec vs H = some (u, addRows H new) := by
 simp only [flatC, h1, h2, h3, if_true, h4]
theorem shp_at {k n j : Nat} : shp k n (k + j) = some (n + j) := by
 unfold shp; rw [if_pos (by omega), Nat.add_sub_cancel_left]
theorem shp_k {k n : Nat} : shp k n k = some n := shp_at (j := 0)
end
def outV (m k n : Nat) : Value := if n = 0 then .slice none 0 0 else .slice (some ⟨m, 0, none⟩) n (n + k)
def outN (n : Nat) (d : List Value) : List (List Value) := if n = 0 then [] else [d]
theorem outV_ne {m k n : Nat} (h : n ≠ 0) : outV m k n = .slice (some ⟨m, 0, none⟩) n (n + k) := if_neg h
theorem outN_ne {n : Nat} {d : List Value} (h : n ≠ 0) : outN n d = [d] := if_neg h
theorem out_gc {k m k' n : Nat} : gcV (shp m n) 9 (outV m k k') = some (outV n k k') := by
 unfold outV
 split
 ·exact gcV_free rfl
 ·exact gcV_slice shp_k
theorem tab_cons {P : Program} {g : FuncId} {c : List Value → AH → Option (Value × AH)} {r : List (FuncId × (List Value → AH → Option (Value × AH)))} (h : Con P g c) (ht : ∀ p ∈ r, Con P p.1 p.2) : ∀ p ∈ (g, c) :: r, Con P p.1 p.2 := fun p hp => by
 rcases List.mem_cons.1 hp with rfl | hp
 ·exact h
 ·exact ht p hp
theorem tab_end {P : Program} : ∀ p ∈ ([] : List (FuncId × (List Value → AH → Option (Value × AH)))), Con P p.1 p.2 := fun p hp => by cases hp
theorem tab_hit {g : FuncId} {c : List Value → AH → Option (Value × AH)} {r : List (FuncId × (List Value → AH → Option (Value × AH)))} {args : List Value} {h : AH} : tabOf ((g, c) :: r) (.func g) args h = c args h := by simp only [tabOf, if_true]
theorem tab_miss {g g' : FuncId} {c : List Value → AH → Option (Value × AH)} {r : List (FuncId × (List Value → AH → Option (Value × AH)))} {args : List Value} {h : AH} (hne : g' ≠ g) : tabOf ((g, c) :: r) (.func g') args h = tabOf r (.func g') args h := by
 simp only [tabOf, if_neg hne]
section
variable {P : Program} {call : Call'} {ops : Array Oper} {o : Oper} {rest : List Oper} {e : Tr Value} {n : Nat} {h : AH} {K : St → Prop} {KD : St → List Inf → Prop} {acc : List Inf} {d : Nat} {c : Call} {f : FuncId} {vs : List Value} {t : Tr AObj} {nx wr : Nat}
theorem x_call0 {h' : AH} {v : Value} (ho : o.op = .call c) (hc : c.callee = .value (.func f)) (ha : evs e c.args.toList = some vs) (hcall : call (.func f) vs h = some (v, h')) : doOp P call e h o = some (v, h') := by
 refine x_call ho hc rfl ha ?_
 simpa using hcall
theorem o_call0 (hw : wantedA ops e o = some true) (hd : o.dst = some d) (ho : o.op = .call c) (hc : c.callee = .value (.func f)) (ha : evs e c.args.toList = some vs) (hlt : d < n)
  (k : ∃ v h', call (.func f) vs h = some (v, h') ∧ OpsK P call ops rest ⟨e.set d v, n, h'⟩ K) : OpsK P call ops (o :: rest) ⟨e, n, h⟩ K := by
 obtain ⟨v, h', k1, k2⟩ := k
 exact o_step hw hd (x_call0 ho hc ha k1) hlt k2
theorem o_callF {y : Operand} (hw : wantedA ops e o = some true) (hd : o.dst = some d) (ho : o.op = .call c) (hc : c.callee = .value y) (hy : ev e y = some (.func (.func f) ⟨[]⟩ ⟨[]⟩)) (ha : evs e c.args.toList = some vs) (hlt : d < n)
  (k : ∃ v h', call (.func f) vs h = some (v, h') ∧ OpsK P call ops rest ⟨e.set d v, n, h'⟩ K) : OpsK P call ops (o :: rest) ⟨e, n, h⟩ K := by
 obtain ⟨v, h', k1, k2⟩ := k
 exact o_step hw hd (x_call ho hc hy ha (by simpa using k1)) hlt k2
theorem d_call0 (hw : wantedA ops e o = some true) (hd : o.dst = some d) (ho : o.op = .call c) (hc : c.callee = .value (.func f)) (ha : evs e c.args.toList = some vs) (hlt : d < n)
  (k : ∃ v t' nx' wr', call (.func f) vs ⟨t, nx, BIG⟩ = some (v, ⟨t', nx', wr'⟩) ∧ DrawK P call ops rest ⟨e.set d v, n, ⟨t', nx', min wr wr'⟩⟩ (acc ++ [infOf e t nx o.op nx' wr']) KD) : DrawK P call ops (o :: rest) ⟨e, n, ⟨t, nx, wr⟩⟩ acc KD := by
 obtain ⟨v, t', nx', wr', k1, k2⟩ := k
 exact d_step hw hd (x_call0 ho hc ha k1) hlt k2
end
theorem rows_len {ks : List Lk} {c : List Value} (hk : 0 < ks.length) (h : isRows ks c = true) : c.length = (chunks ks.length c).length * ks.length := by
 obtain ⟨h1, h2⟩ := isRows_cfs hk h
 rw [← cfs_len h1, h2]
theorem x_build {P : Program} {call : Call'} {e : Tr Value} {h : AH} {o : Oper} {t : TypeId} {parts : Array (Nat × Operand)} {ps : List (Nat × Value)} {z v : Value} (ho : o.op = .build t parts) (hp : evP e parts.toList = some ps) (hz : (P.info? t).bind (·.zero) = some z) (hf : free1 z = true)
  (hv : quick P (Instr.build t ⟨ps⟩) = some v) : doOp P call e h o = some (v, h) := by
 rw [do_op (by rw [ho]; simp), ho]
 simp only [aop, hp, hz, hf, if_true, hv, Option.map_some]
theorem gcV_sliceE {pos : Nat → Option Nat} {d id off n n' k j : Nat} (hp : pos id = some j) (hn : n = n') : gcV pos (d + 1) (.slice (some ⟨id, off, none⟩) n (n + k)) = some (.slice (some ⟨j, off, none⟩) n' (n' + k)) := by
 subst hn; exact gcV_slice hp
section
variable {P : Program} {call : Call'} {e : Tr Value} {h : AH} {o : Oper}
theorem x_fieldK {T : TypeId} {x : Operand} {i : Nat} {id off a k : Nat} {fs : Array Field} {f : Field} (ho : o.op = .fieldAddr T x i) (hx : ev e x = some (.pointer (some ⟨id, off, none⟩))) (hu : P.underlying T = some (.struct fs)) (hf : fs[i]? = some f) (hs : szOf P f.type = some (k + 1))
  (hoff : f.offset = a) : doOp P call e h o = some (.pointer (some ⟨id, off + a, none⟩), h) := x_field ho hx hu hf hs (by rw [hoff])
theorem x_field0 {T : TypeId} {x : Operand} {i : Nat} {id off k : Nat} {fs : Array Field} {f : Field} (ho : o.op = .fieldAddr T x i) (hx : ev e x = some (.pointer (some ⟨id, off, none⟩))) (hu : P.underlying T = some (.struct fs)) (hf : fs[i]? = some f) (hs : szOf P f.type = some (k + 1))
  (hoff : f.offset = 0) : doOp P call e h o = some (.pointer (some ⟨id, off, none⟩), h) := x_field ho hx hu hf hs (by rw [hoff]; rfl)
end
theorem gcD_cons {pos : Nat → Option Nat} {a a' : Value} {d d' : List Value} (h1 : gcV pos 9 a = some a') (h2 : gcD pos d = some d') : gcD pos (a :: d) = some (a' :: d') := by
 have hm : (a :: d).mapM (gcV pos 9) = some (a' :: d') := by
  have h3 : d.mapM (gcV pos 9) = some d' := by
   unfold gcD at h2
   split at h2
   ·rename_i hf
    cases h2
    clear h1
    induction d with
    | nil => rfl
    | cons x d ih =>
     simp only [List.all_cons, Bool.and_eq_true] at hf
     rw [List.mapM_cons, gcV_free hf.1, ih hf.2]; rfl
   ·exact h2
  rw [List.mapM_cons, h1, h3]; rfl
 unfold gcD
 split
 ·rename_i hf
  simp only [List.all_cons, Bool.and_eq_true] at hf
  rw [gcV_free hf.1] at h1
  cases h1
  unfold gcD at h2
  rw [if_pos hf.2] at h2
  cases h2; rfl
 ·exact hm
theorem gcD_nil {pos : Nat → Option Nat} : gcD pos [] = some [] := rfl
theorem gcV_fn {pos : Nat → Option Nat} {d : Nat} {f : FuncId} : gcV pos (d + 1) (.func (.func f) ⟨[]⟩ ⟨[]⟩) = some (.func (.func f) ⟨[]⟩ ⟨[]⟩) := rfl
theorem x_bslice0 {P : Program} {call : Call'} {e : Tr Value} {h : AH} {o : Oper} {t el : TypeId} {sz : Nat} {z : Value} (ho : o.op = .buildSlice t 0 #[]) (hu : P.underlying t = some (.slice el)) (hs : szOf P el = some sz) (hz : (P.info? el).bind (·.zero) = some z) (h0 : 0 < sz)
  (hzs : z.cells.size = sz) (hzf : free1 z = true) : doOp P call e h o = some (.slice (some ⟨h.next, 0, none⟩) 0 0, ⟨h.t.set h.next (.row [] h.next BIG false 0), h.next + 1, h.wr⟩) := by
 rw [do_op (by rw [ho]; simp), ho]
 simp only [aop, evP, hu, hs, hz, Nat.zero_mul]
 rw [if_pos ⟨Nat.zero_le _, hzs, h0, hzf⟩]
 rfl
theorem gcV_tup2 {pos : Nat → Option Nat} {d : Nat} {a a' b b' : Value} (h1 : gcV pos d a = some a') (h2 : gcV pos d b = some b') : gcV pos (d + 1) (.tuple ⟨[a, b]⟩) = some (.tuple ⟨[a', b']⟩) := by
 have hm : [a, b].mapM (gcV pos d) = some [a', b'] := by simp [h1, h2]
 simp only [gcV]
 rw [if_neg (by simp [free1, free0])]
 rw [hm]; rfl
theorem out_gc' {k m k' n d : Nat} : gcV (shp m n) (d + 1) (outV m k k') = some (outV n k k') := by
 unfold outV
 split
 ·exact gcV_free rfl
 ·exact gcV_slice shp_k
section
variable {P : Program} {call : Call'} {e : Tr Value} {h : AH} {o : Oper} {T : TypeId} {p x : Operand} {id off k low n0 : Nat} {v : Value} {d d' vs : List Value}
theorem x_store1P (ho : o.op = .store T p x) (hp : ev e p = some (.pointer (some ⟨id, off, none⟩))) (hv : ev e x = some v) (hc : v.cells.toList = [v]) (hs : szOf P T = some 1)
  (hr : h.t.get id = some (.row d id low false n0)) (hn : n0 = d.length) (hl : off + 1 ≤ d.length) (h1 : oneC v = true) (hd : splice d off [v] = d') :
  doOp P call e h o = some (undef, ⟨h.t.set id (.row d' id low false d'.length), h.next, min h.wr id⟩) := by
 subst hd
 exact x_storeP ho hp hv hc hs rfl hr hn hl (by simp [h1])
theorem x_storeAP (ho : o.op = .store T p x) (hp : ev e p = some (.pointer (some ⟨id, off, none⟩))) (hv : ev e x = some (.agg ⟨vs⟩)) (hs : szOf P T = some k) (hk : vs.length = k)
  (hr : h.t.get id = some (.row d id low false n0)) (hn : n0 = d.length) (hl : off + k ≤ d.length) (h1 : vs.all oneC = true) (hd : splice d off vs = d') :
  doOp P call e h o = some (undef, ⟨h.t.set id (.row d' id low false d'.length), h.next, min h.wr id⟩) := by
 subst hd
 exact x_storeP ho hp hv rfl hs hk hr hn hl h1
theorem x_loadA' {t : TypeId} {cs : List Value} (ho : o.op = .load t x) (hx : ev e x = some (.pointer (some ⟨id, off, none⟩))) (hg : aggOf P t = some true) (hs : szOf P t = some k) (hr : h.t.get id = some (.row d id low false n0)) (hn : n0 = d.length) (hl : off + k ≤ d.length)
  (hd : (d.drop off).take k = cs) : doOp P call e h o = some (.agg ⟨cs⟩, h) := x_loadA ho hx hg hs (by rw [l_whole (whole_row hr hn) off k hl, hd])
theorem x_load1' {t : TypeId} (ho : o.op = .load t x) (hx : ev e x = some (.pointer (some ⟨id, off, none⟩))) (hg : aggOf P t = some false) (hr : h.t.get id = some (.row d id low false n0)) (hn : n0 = d.length) (hl : off + 1 ≤ d.length)
  (hd : (d.drop off).take 1 = [v]) : doOp P call e h o = some (v, h) := x_load1 ho hx hg (by rw [l_whole (whole_row hr hn) off 1 hl, hd])
end
theorem b_xor8 {P : Program} {t : TypeId} {xo yo : Operand} {a b : Int} : binV P .xor t xo yo (.int .u8 a) (.int .u8 b) = some (.int .u8 (IntKind.u8.wrap ((BitVec.ofInt 8 a ^^^ BitVec.ofInt 8 b).toNat : Int))) := rfl
theorem b_addS {P : Program} {t : TypeId} {xo yo : Operand} {x y : ByteArray} (h : x.size + y.size ≤ 4611686018427387904) : binV P .add t xo yo (.string x) (.string y) = some (.string (x ++ y)) := by
 have e : binV P .add t xo yo (.string x) (.string y) = keep (quick P (Op.stringOp .add x y)) := rfl
 rw [e]
 unfold Op.stringOp
 simp only
 rw [if_neg (by show ¬ ((x.size + y.size : Nat) : Int) > 9223372036854775807; omega)]
 rfl
theorem u64_nonneg (n : Int) : 0 ≤ IntKind.u64.wrap n := by
 simp [IntKind.wrap, IntKind.bits, IntKind.signed]; omega
section
variable {P : Program} {st : St} {a t id k : Nat} {cs : List Value} {r : List ResultVar} {vs : List Value} {v : Value}
theorem resA_nil : resA P st [] = some [] := rfl
theorem resA_tmp (h1 : st.e.get a = some v) (h2 : resA P st r = some vs) : resA P st (.tmp a :: r) = some (v :: vs) := by simp only [resA, h1, h2]
theorem resA_cell (hp : st.e.get a = some (.pointer (some ⟨id, 0, none⟩))) (hg : aggOf P t = some true) (hs : szOf P t = some k) (hl : loadC st.h id 0 k = some cs) (h2 : resA P st r = some vs) : resA P st (.cell a t :: r) = some (.agg ⟨cs⟩ :: vs) := by
 simp only [resA, hp, h2, loadV, hg, hs, hl, Option.map_some]
end
theorem cf_splice1 : ∀ {ks : List Lk} {d : List Value} {off : Nat} {k : Lk} {v : Value}, cf ks d = true → ks[off]? = some k → k.ok v = true → cf ks (splice d off [v]) = true
 | [], _, _, _, _, _, h, _ => by simp at h
 | k0 :: ks, [], _, _, _, h, _, _ => by cases h
 | k0 :: ks, x :: d, 0, k, v, h, h1, h2 => by
  simp only [List.getElem?_cons_zero, Option.some.injEq] at h1
  subst h1
  simp only [cf, Bool.and_eq_true] at h
  simp only [splice, List.take_zero, List.nil_append, List.length_cons, List.length_nil, Nat.zero_add, List.drop_succ_cons, List.drop_zero, List.cons_append, cf, h2, h.2, Bool.and_self]
 | k0 :: ks, x :: d, off + 1, k, v, h, h1, h2 => by
  simp only [cf, Bool.and_eq_true] at h
  have ih := cf_splice1 (off := off) h.2 (by simpa using h1) h2
  have e : splice (x :: d) (off + 1) [v] = x :: splice d off [v] := by
   simp only [splice, List.take_succ_cons, List.cons_append, List.length_cons, List.length_nil, Nat.zero_add]
   rw [show off + 1 + 1 = (off + 1) + 1 from rfl, List.drop_succ_cons]
  rw [e]
  simp only [cf, h.1, ih, Bool.and_self]
theorem out_gcA {j k m k' n d : Nat} : gcV (shp m n) (d + 1) (outV (m + j) k k') = some (outV (n + j) k k') := by
 unfold outV
 split
 ·exact gcV_free rfl
 ·exact gcV_slice shp_at
theorem outN_free {n : Nat} {d : List Value} (h : d.all free0 = true) : (outN n d).all (fun d => d.all free0) = true := by
 unfold outN; split
 ·rfl
 ·simp only [List.all_cons, List.all_nil, Bool.and_true, h]
theorem outN_free2 {n m : Nat} {d e : List Value} (h : d.all free0 = true) (h' : e.all free0 = true) : (outN n d ++ outN m e).all (fun d => d.all free0) = true := by
 rw [List.all_append, outN_free h, outN_free h']; rfl
section
variable {P : Program} {call : Call'} {e : Tr Value} {o : Oper} {T el : TypeId} {p x : Operand} {id off k low n0 nx wr sz m len : Nat} {v z : Value} {cs d d' vs news : List Value} {t : Tr AObj}
theorem y_boxA (ho : o.op = .box T x) (hx : ev e x = some (.agg ⟨cs⟩)) : doOp P call e ⟨t, nx, wr⟩ o = some (.pointer (some ⟨nx, 0, none⟩), ⟨t.set nx (.row cs nx BIG false cs.length), nx + 1, wr⟩) := x_boxA ho hx
theorem y_box1 (ho : o.op = .box T x) (hx : ev e x = some v) (hc : v.cells.toList = [v]) : doOp P call e ⟨t, nx, wr⟩ o = some (.pointer (some ⟨nx, 0, none⟩), ⟨t.set nx (.row [v] nx BIG false 1), nx + 1, wr⟩) := x_box1 ho hx hc
theorem y_alloc (ho : o.op = .alloc T) (hz : (P.info? T).bind (·.zero) = some z) (hf : free1 z = true) (hc : z.cells.toList = cs) :
  doOp P call e ⟨t, nx, wr⟩ o = some (.pointer (some ⟨nx, 0, none⟩), ⟨t.set nx (.row cs nx BIG false cs.length), nx + 1, wr⟩) := x_alloc ho hz hf hc
theorem y_bsliceA (ho : o.op = .buildSlice T 1 #[(0, x)]) (hx : ev e x = some (.agg ⟨cs⟩)) (hu : P.underlying T = some (.slice el)) (hs : szOf P el = some sz) (hz : (P.info? el).bind (·.zero) = some z) (h0 : 0 < sz)
  (hzs : z.cells.size = sz) (hzf : free1 z = true) (hl : cs.length = sz) (hb : sz ≤ 16777216) : doOp P call e ⟨t, nx, wr⟩ o = some (.slice (some ⟨nx, 0, none⟩) 1 1, ⟨t.set nx (.row cs nx BIG false cs.length), nx + 1, wr⟩) := x_bsliceA ho hx hu hs hz h0 hzs hzf hl hb
theorem y_bsliceV (ho : o.op = .buildSlice T 1 #[(0, x)]) (hx : ev e x = some v) (hc : v.cells.toList = [v]) (hu : P.underlying T = some (.slice el)) (hs : szOf P el = some 1) (hz : (P.info? el).bind (·.zero) = some z)
  (hzs : z.cells.size = 1) (hzf : free1 z = true) : doOp P call e ⟨t, nx, wr⟩ o = some (.slice (some ⟨nx, 0, none⟩) 1 1, ⟨t.set nx (.row [v] nx BIG false 1), nx + 1, wr⟩) := x_bsliceV ho hx hc hu hs hz hzs hzf
theorem y_bslice0 (ho : o.op = .buildSlice T 0 #[]) (hu : P.underlying T = some (.slice el)) (hs : szOf P el = some sz) (hz : (P.info? el).bind (·.zero) = some z) (h0 : 0 < sz)
  (hzs : z.cells.size = sz) (hzf : free1 z = true) : doOp P call e ⟨t, nx, wr⟩ o = some (.slice (some ⟨nx, 0, none⟩) 0 0, ⟨t.set nx (.row [] nx BIG false 0), nx + 1, wr⟩) := x_bslice0 ho hu hs hz h0 hzs hzf
theorem y_storeA (ho : o.op = .store T p x) (hp : ev e p = some (.pointer (some ⟨id, 0, none⟩))) (hv : ev e x = some (.agg ⟨vs⟩)) (hs : szOf P T = some k) (hk : vs.length = k)
  (hr : t.get id = some (.row d id low false n0)) (hn : n0 = k) (hl : k = d.length) (h1 : vs.all oneC = true) :
  doOp P call e ⟨t, nx, wr⟩ o = some (undef, ⟨t.set id (.row vs id low false vs.length), nx, min wr id⟩) := x_storeA ho hp hv hs hk hr hn hl h1
theorem y_store1P (ho : o.op = .store T p x) (hp : ev e p = some (.pointer (some ⟨id, off, none⟩))) (hv : ev e x = some v) (hc : v.cells.toList = [v]) (hs : szOf P T = some 1)
  (hr : t.get id = some (.row d id low false n0)) (hn : n0 = d.length) (hl : off + 1 ≤ d.length) (h1 : oneC v = true) (hd : splice d off [v] = d') :
  doOp P call e ⟨t, nx, wr⟩ o = some (undef, ⟨t.set id (.row d' id low false d'.length), nx, min wr id⟩) := x_store1P ho hp hv hc hs hr hn hl h1 hd
theorem y_storeAP (ho : o.op = .store T p x) (hp : ev e p = some (.pointer (some ⟨id, off, none⟩))) (hv : ev e x = some (.agg ⟨vs⟩)) (hs : szOf P T = some k) (hk : vs.length = k)
  (hr : t.get id = some (.row d id low false n0)) (hn : n0 = d.length) (hl : off + k ≤ d.length) (h1 : vs.all oneC = true) (hd : splice d off vs = d') :
  doOp P call e ⟨t, nx, wr⟩ o = some (undef, ⟨t.set id (.row d' id low false d'.length), nx, min wr id⟩) := x_storeAP ho hp hv hs hk hr hn hl h1 hd
theorem ya_nil {by' : Nat} (hu : P.underlying T = some (.slice el)) (hi : TyI P el sz by') (h0 : 0 < sz) (hn : news.length = m * sz) (hb : 2 * m * by' ≤ 281474976710656) (hm : m < BIG) (ho : news.all oneC = true) (hm0 : 0 < m) :
  appendV P ⟨t, nx, wr⟩ T (.slice none 0 0) m news = some (.slice (some ⟨nx, 0, none⟩) m (m + sz), ⟨t.set nx (.row news nx BIG false news.length), nx + 1, wr⟩) := a_nil hu hi h0 hn hb hm ho hm0
theorem ya_own {by' : Nat} (hu : P.underlying T = some (.slice el)) (hi : TyI P el sz by') (h0 : 0 < sz) (hn : news.length = m * sz) (hb : 2 * (len + m) * by' ≤ 281474976710656) (hm : len + m < BIG) (ho : news.all oneC = true) (hm0 : 0 < m)
  (hr : t.get id = some (.row d id low false n0)) (hn0 : n0 = d.length) (hd : d.length = len * sz) :
  appendV P ⟨t, nx, wr⟩ T (.slice (some ⟨id, 0, none⟩) len (len + sz)) m news =
   some (.slice (some ⟨nx, 0, none⟩) (len + m) (len + m + sz), ⟨(t.set id (.row (d ++ news) nx low false n0)).set nx (.alias id 0 (len * sz + news.length)), nx + 1, min wr id⟩) := a_own hu hi h0 hn hb hm ho hm0 hr hn0 hd
end
theorem gcV_agg2 {pos : Nat → Option Nat} {d : Nat} {a a' b b' : Value} (h1 : gcV pos d a = some a') (h2 : gcV pos d b = some b') (hd : 0 < d) : gcV pos (d + 1) (.agg ⟨[a, b]⟩) = some (.agg ⟨[a', b']⟩) := by
 obtain ⟨d, rfl⟩ : ∃ e, d = e + 1 := ⟨d - 1, by omega⟩
 have hm : [a, b].mapM (gcV pos (d + 1)) = some [a', b'] := by simp [h1, h2]
 by_cases hf : free1 (.agg ⟨[a, b]⟩) = true
 ·have h0 : free0 a = true ∧ free0 b = true := by
   have : [a, b].all free0 = true := hf
   simpa using this
  rw [gcV_free (free0_free1 h0.1)] at h1
  rw [gcV_free (free0_free1 h0.2)] at h2
  cases h1; cases h2
  exact gcV_free hf
 ·rw [gcV]
  rw [if_neg hf]
  show (([a, b].mapM (gcV pos (d + 1))).map fun a' => Value.agg ⟨a'⟩) = _
  rw [hm]; rfl
end Go.AM
namespace Go.AM
section
variable {P : Program}
theorem q_checkFields {b : Bool} {n : Nat} {cs : Array Value} (fs : List Field) (h : ∀ f ∈ fs, f.name ≠ "_" → ∃ v, quick P (part f.type cs f.offset) = some v ∧ quick P (Instr.checkKey b n f.type v) = some ()) :
  quick P (do
   for f in fs do
    if f.name ≠ "_" then Instr.checkKey b n f.type (← part f.type cs f.offset)) = some () := by
 induction fs with
 | nil => rfl
 | cons f fs ih =>
  have ih := ih fun g hg => h g (List.mem_cons_of_mem _ hg)
  simp only [List.forIn_cons, bind_assoc]
  split
  ·rename_i hn
   obtain ⟨v, h1, h2⟩ := h f (List.mem_cons_self ..) hn
   simp only [bind_assoc, quick_bind, h1, h2, Option.bind_some, q_pure] at ih ⊢
   exact ih
  ·simp only [quick_bind, q_pure, Option.bind_some] at ih ⊢
   exact ih
theorem q_checkItems {b : Bool} {n k : Nat} {e : TypeId} {cs : Array Value} (he : szOf P e = some k) (is : List Nat) (h : ∀ i ∈ is, ∃ v, quick P (part e cs (i * k)) = some v ∧ quick P (Instr.checkKey b n e v) = some ()) :
  quick P (do for i in is do Instr.checkKey b n e (← part e cs (i * (← sizeOf e)))) = some () := by
 induction is with
 | nil => rfl
 | cons i is ih =>
  have ih := ih fun g hg => h g (List.mem_cons_of_mem _ hg)
  obtain ⟨v, h1, h2⟩ := h i (List.mem_cons_self ..)
  simp only [List.forIn_cons, bind_assoc, quick_bind, q_size he, h1, h2, Option.bind_some, q_pure] at ih ⊢
  exact ih
theorem rep_at {α : Type} {kf : List α} : ∀ {n i : Nat}, i < n → (((List.replicate n kf).flatten).drop (i * kf.length)).take kf.length = kf
 | 0, _, h => by omega
 | n + 1, 0, _ => by
  rw [List.replicate_succ, List.flatten_cons, Nat.zero_mul, List.drop_zero, List.take_left']; rfl
 | n + 1, i + 1, h => by
  rw [List.replicate_succ, List.flatten_cons, Nat.add_mul, Nat.one_mul, Nat.add_comm, ← List.drop_drop, List.drop_left' rfl]
  exact rep_at (by omega)
theorem check_flat : ∀ (d : Nat) (t : TypeId) (ks : List Lk), flatTy P d t = some ks → ∀ (D : Nat) (b : Bool) (xs : List Value) (x : Value), cf ks xs = true → packV P t xs = some x → quick P (Instr.checkKey b (D + d) t x) = some ()
 | 0, _, _, h => by cases h
 | d + 1, t, ks, h => by
  intro D b xs x cx px
  have ih := fun t ks h => check_flat d t ks h D b
  have one : ∀ k0 : Lk, ks = [k0] → ∃ v, xs = [v] ∧ k0.ok v = true := fun k0 e => by
   subst e
   have := cf_len cx
   match xs, this, cx with
   | [v], _, hc => exact ⟨v, rfl, by simpa [cf] using hc⟩
  unfold flatTy at h
  unfold packV aggOf at px
  show quick P (Instr.checkKey b (D + d + 1) t x) = _
  split at h
  ·rename_i hu
   cases h
   rw [hu] at px
   obtain ⟨a, rfl, ha⟩ := one _ rfl
   cases px
   unfold Instr.checkKey
   rw [q_bind (run_und hu)]
   cases x <;> first | rfl | cases ha
  ·rename_i k hu
   cases h
   rw [hu] at px
   obtain ⟨a, rfl, ha⟩ := one _ rfl
   cases px
   unfold Instr.checkKey
   rw [q_bind (run_und hu)]
   cases x <;> first | rfl | cases ha
  ·rename_i hu
   cases h
   rw [hu] at px
   obtain ⟨a, rfl, ha⟩ := one _ rfl
   cases px
   unfold Instr.checkKey
   rw [q_bind (run_und hu)]
   cases x <;> first | rfl | cases ha
  ·rename_i fs hu
   split at h
   ·cases h
   rw [hu] at px
   cases px
   unfold Instr.checkKey
   rw [q_bind (run_und hu)]
   simp only
   rw [← Array.forIn_toList]
   refine q_checkFields fs.toList fun f hf hn => ?_
   have key : ∀ (fs : List Field) (off : Nat) (ks : List Lk), flatFs P (flatTy P d) fs off = some ks → off + ks.length = xs.length → cf ks (xs.drop off) = true → f ∈ fs → ∃ v, quick P (part f.type ⟨xs⟩ f.offset) = some v ∧ quick P (Instr.checkKey b (D + d) f.type v) = some () := by
    intro fs
    induction fs with
    | nil => intro off ks _ _ _ hm; cases hm
    | cons g fs ihf =>
     intro off ks hff hl hc hm
     simp only [flatFs] at hff
     split at hff
     case h_2 => cases hff
     rename_i kf k hf' hk
     split at hff
     case isFalse => cases hff
     rename_i hcond
     obtain ⟨_, ho, hlk⟩ := hcond
     obtain ⟨kr, h3, h4⟩ := map_inv' hff
     subst h4
     simp only [List.length_append] at hl
     have p1 := cf_take k hc
     have p2 := cf_drop k hc
     rw [List.take_append_of_le_length (by omega), List.take_of_length_le (by omega)] at p1
     rw [List.drop_append_of_le_length (by omega), List.drop_eq_nil_of_le (by omega), List.nil_append, List.drop_drop] at p2
     rcases List.mem_cons.1 hm with rfl | hm
     ·obtain ⟨vx, hx⟩ := part_at hf' p1
      refine ⟨vx, ?_, ih _ _ hf' _ _ p1 hx⟩
      rw [ho]
      exact q_part hk hx (by omega)
     ·exact ihf (off + k) kr h3 (by omega) p2 hm
   have hl := cf_len cx
   exact key fs.toList 0 ks h (by omega) (by simpa using cx) hf
  ·rename_i n e hu
   split at h
   case h_2 => cases h
   rename_i kf k hf hk
   split at h
   case isFalse => cases h
   rename_i hlk
   cases h
   rw [hu] at px
   cases px
   have hl := cf_len cx
   have hr : ((List.replicate n kf).flatten).length = n * k := by simp [hlk]
   unfold Instr.checkKey
   rw [q_bind (run_und hu)]
   simp only [Std.Legacy.Range.forIn_eq_forIn_range', Std.Legacy.Range.size, Nat.sub_zero, Nat.add_one_sub_one, Nat.div_one]
   refine q_checkItems hk _ fun i hi => ?_
   have hin : i < n := by simpa using hi
   have hik : i * k + k ≤ n * k := by
    have : (i + 1) * k ≤ n * k := Nat.mul_le_mul_right _ (by omega)
    rw [Nat.add_mul] at this
    omega
   have hp : cf kf ((xs.drop (i * k)).take k) = true := cf_part (i * k) k cx (by rw [← hlk]; exact rep_at hin)
   obtain ⟨vx, hx⟩ := part_at hf hp
   exact ⟨vx, q_part hk hx (by omega), ih _ _ hf _ _ hp hx⟩
  ·cases h
def kc (v : Value) : List Value := v.cells.toList
def KeyOk (P : Program) (t : TypeId) (ks : List Lk) (v : Value) : Prop := packV P t (kc v) = some v ∧ cf ks (kc v) = true
def ents : Nat → List (Value × Value) → List MapEntry
 | _, [] => []
 | i, (k, v) :: r => { key := k, val := v, born := i } :: ents (i + 1) r
def findM (k : Value) : List (Value × Value) → Nat → Option (Nat × Value)
 | [], _ => none
 | (k', v) :: r, i => if eqCs (kc k) (kc k') then some (i, v) else findM k r (i + 1)
def lookM (k : Value) (M : List (Value × Value)) : Option Value := (findM k M 0).map (·.2)
variable {d : Nat} {kt : TypeId} {ks : List Lk}
theorem q_eqK (hd : d ≤ 10000) (hf : flatTy P d kt = some ks) {k k' : Value} (h : KeyOk P kt ks k) (h' : KeyOk P kt ks k') : quick P (Op.equal kt k k') = some (eqCs (kc k) (kc k')) := by
 have := eq_flat d kt ks hf (10000 - d) _ _ _ _ h.2 h'.2 h.1 h'.1
 rw [show 10000 - d + d = 10000 by omega] at this
 exact this
theorem sameNow_eq {u : TypeDesc} {a b : Value} {r : Bool} (h : Instr.sameNow u a b = some r) : r = eqCs (kc a) (kc b) := by
 unfold Instr.sameNow at h
 split at h
 ·split at h
  ·rename_i k n k' n' hk
   cases h
   subst hk
   show (n == n') = (decide (k = k) && decide (n = n') && true)
   simp
   rfl
  ·cases h
 ·cases h
  rename_i x y
  show (x == y) = (x.toList == y.toList && true)
  rw [beq_toListBytes, Bool.and_true]
 ·cases h
  rename_i x y
  show (x == y) = (x == y && true)
  rw [Bool.and_true]
 ·cases h
theorem findNow_eq {u : TypeDesc} {k : Value} : ∀ {M : List (Value × Value)} {j i : Nat} {r : Option (Nat × Value)}, Instr.findNow u k (ents j M) i = some r → r = findM k M i
 | [], j, i, r, h => by cases h; rfl
 | (k', v) :: M, j, i, r, h => by
  simp only [ents, Instr.findNow] at h
  split at h
  ·rename_i hs
   cases h
   have := sameNow_eq hs
   simp only [findM]
   rw [← this]; rfl
  ·rename_i hs
   have := sameNow_eq hs
   simp only [findM]
   rw [← this]
   exact findNow_eq h
  ·cases h
theorem findAsk_eq (hd : d ≤ 10000) (hf : flatTy P d kt = some ks) {k : Value} (hk : KeyOk P kt ks k) : ∀ {M : List (Value × Value)} (j i : Nat), (∀ p ∈ M, KeyOk P kt ks p.1) → quick P (Instr.findAsking kt k (ents j M) i) = some (findM k M i)
 | [], j, i, _ => rfl
 | (k', v) :: M, j, i, hM => by
  have h1 := q_eqK hd hf hk (hM (k', v) (List.mem_cons_self ..))
  have ih := findAsk_eq hd hf hk (M := M) (j + 1) (i + 1) fun p hp => hM p (List.mem_cons_of_mem _ hp)
  simp only [ents, Instr.findAsking, findM]
  rw [q_bind h1]
  cases eqCs (kc k) (kc k')
  ·exact ih
  ·rfl
theorem findV_eq (hd : d ≤ 10000) (hf : flatTy P d kt = some ks) {k : Value} (hk : KeyOk P kt ks k) {M : List (Value × Value)} (j : Nat) (hM : ∀ p ∈ M, KeyOk P kt ks p.1) {u : TypeDesc} (hu : P.underlying kt = some u) : findV P kt k (ents j M) = some (findM k M 0) := by
 unfold findV Instr.findKey
 rw [q_bind (run_und hu)]
 cases h : Instr.findNow u k (ents j M) 0 with
 | some r => rw [findNow_eq h]; rfl
 | none => exact findAsk_eq hd hf hk j 0 hM
theorem checkV_eq (hd : d ≤ 10000) (hf : flatTy P d kt = some ks) {k : Value} (hk : KeyOk P kt ks k) (b : Bool) : quick P (Instr.checkKey b 10000 kt k) = some () := by
 have := check_flat d kt ks hf (10000 - d) b _ _ hk.2 hk.1
 rw [show 10000 - d + d = 10000 by omega] at this
 exact this
theorem findM_lt {k : Value} : ∀ {M : List (Value × Value)} {i j : Nat} {v : Value}, findM k M i = some (j, v) → i ≤ j ∧ ∃ k', M[j - i]? = some (k', v) ∧ eqCs (kc k) (kc k') = true
 | [], _, _, _, h => by cases h
 | (k', v') :: M, i, j, v, h => by
  simp only [findM] at h
  split at h
  ·cases h
   exact ⟨Nat.le_refl _, k', by simp, ‹_›⟩
  ·obtain ⟨h1, k2, h2, h3⟩ := findM_lt h
   refine ⟨by omega, k2, ?_, h3⟩
   rw [show j - i = (j - (i + 1)) + 1 by omega]
   simpa using h2
theorem ents_get : ∀ {M : List (Value × Value)} {j i : Nat}, (ents j M)[i]? = (M[i]?).map fun p => { key := p.1, val := p.2, born := j + i }
 | [], _, _ => by simp [ents]
 | (k, v) :: M, j, 0 => by simp [ents]
 | (k, v) :: M, j, i + 1 => by
  simp only [ents, List.getElem?_cons_succ, ents_get (M := M) (j := j + 1), show j + 1 + i = j + (i + 1) by omega]
theorem ents_append : ∀ {M : List (Value × Value)} {j : Nat} {k v : Value}, ents j (M ++ [(k, v)]) = ents j M ++ [{ key := k, val := v, born := j + M.length }]
 | [], j, _, _ => by simp [ents]
 | (_, _) :: M, j, k, v => by
  simp only [List.cons_append, ents, ents_append (M := M), List.length_cons, show j + 1 + M.length = j + (M.length + 1) by omega]
section
variable {h : AH} {t el : TypeId} {r ck : Nat} {k z : Value} {M : List (Value × Value)} {u : TypeDesc}
theorem keyFree (hk : KeyOk P kt ks k) : free1 k = true := by
 have h1 := cf_free0 hk.2
 have h2 := hk.1
 unfold packV at h2
 split at h2
 ·cases hk2 : k with
  | agg a => rw [hk2] at h1; exact h1
  | _ => rw [hk2] at h2; cases h2
 ·rename_i v hv
  cases h2
  rw [hv] at h1
  have : free0 k = true := by simpa using h1
  exact free0_free1 this
 ·cases h2
theorem lookupV_eq (hu : P.underlying t = some (.map kt el)) (huk : P.underlying kt = some u) (hd : d ≤ 10000) (hf : flatTy P d kt = some ks) (hk : KeyOk P kt ks k) (hM : ∀ p ∈ M, KeyOk P kt ks p.1) (hz : (P.info? el).bind (·.zero) = some z) (hzf : free1 z = true)
  (hr : h.t.get r = some (.map (ents 0 M) ck)) (ok : Bool) :
  lookupV P h t (.map (some r)) k ok = some (match lookM k M with | some v => if ok then .tuple ⟨[v, .bool true]⟩ else v | none => if ok then .tuple ⟨[z, .bool false]⟩ else z) := by
 unfold lookupV
 simp only [hu, keyFree hk, if_true, mapOf, hr, hz, checkV_eq hd hf hk, findV_eq hd hf hk 0 hM huk]
 unfold lookM
 cases hfm : findM k M 0 with
 | none => simp only [Option.map_none, hzf, if_true]
 | some p => rfl
theorem mapNew_eq {v : Value} (hu : P.underlying t = some (.map kt el)) (huk : P.underlying kt = some u) (hd : d ≤ 10000) (hf : flatTy P d kt = some ks) (hk : KeyOk P kt ks k) (hM : ∀ p ∈ M, KeyOk P kt ks p.1)
  (hr : h.t.get r = some (.map (ents 0 M) M.length)) (hn : lookM k M = none) :
  mapUpdateV P h t (.map (some r)) k v = some { h with t := h.t.set r (.map (ents 0 (M ++ [(k, v)])) (M ++ [(k, v)]).length), wr := min h.wr r } := by
 have hfm : findM k M 0 = none := by
  unfold lookM at hn
  cases hh : findM k M 0 with
  | none => rfl
  | some p => rw [hh] at hn; cases hn
 unfold mapUpdateV
 simp only [hu, keyFree hk, if_true, hr, checkV_eq hd hf hk, findV_eq hd hf hk 0 hM huk, hfm]
 rw [ents_append, Nat.zero_add, List.length_append]
 rfl
theorem leaf_bits {n : Nat} {l : Lk} {v : Value} (h : l.ok v = true) : Instr.sameBits n v v = true := by
 cases l <;> cases v <;> first | (exfalso; simp [Lk.ok] at h; done) | (cases n <;> simp [Instr.sameBits, beq_toListBytes])
theorem cells_bits {n : Nat} : ∀ {ks : List Lk} {cs : List Value}, cf ks cs = true → ((cs.zip cs).all fun (x, y) => Instr.sameBits n x y) = true
 | [], [], _ => rfl
 | [], _ :: _, h => by cases h
 | _ :: _, [], h => by cases h
 | k :: ks, v :: cs, h => by
  simp only [cf, Bool.and_eq_true] at h
  simp only [List.zip_cons_cons, List.all_cons, leaf_bits h.1, cells_bits h.2, Bool.and_self]
theorem key_bits {k : Value} (hk : KeyOk P kt ks k) : Instr.sameBits 10000 k k = true := by
 obtain ⟨h1, h2⟩ := hk
 unfold packV at h1
 split at h1
 ·cases k with
  | agg a =>
   have := cells_bits (n := 9999) h2
   show (a.size == a.size && (a.toList.zip a.toList).all fun (x, y) => Instr.sameBits 9999 x y) = true
   rw [show ((a.toList.zip a.toList).all fun (x, y) => Instr.sameBits 9999 x y) = true from this]
   simp
  | _ => cases h1
 ·rename_i v hv
  cases h1
  rw [hv] at h2
  match ks, h2 with
  | [l], h2 => exact leaf_bits (by simpa [cf] using h2)
  | [], h2 => cases h2
  | _ :: _ :: _, h2 => simp [cf] at h2
 ·cases h1
theorem key_inj {k k' : Value} (h : KeyOk P kt ks k) (h' : KeyOk P kt ks k') (he : eqCs (kc k) (kc k') = true) : k = k' := by
 have := (eqCs_iff h.2).1 he
 have h1 := h.1
 rw [this, h'.1] at h1
 exact (Option.some.inj h1).symm
theorem keeps {k : Value} (hk : KeyOk P kt ks k) : quick P (Instr.keyThatStays k k) = some k := by
 unfold Instr.keyThatStays
 rw [key_bits hk]
 rfl
theorem mapSame_eq {h : AH} {t el : TypeId} {r ck : Nat} {k v : Value} {M : List (Value × Value)} {u : TypeDesc} (hu : P.underlying t = some (.map kt el)) (huk : P.underlying kt = some u) (hd : d ≤ 10000) (hf : flatTy P d kt = some ks) (hk : KeyOk P kt ks k) (hM : ∀ p ∈ M, KeyOk P kt ks p.1)
  (hr : h.t.get r = some (.map (ents 0 M) ck)) (hn : lookM k M = some v) :
  mapUpdateV P h t (.map (some r)) k v = some { h with t := h.t.set r (.map (ents 0 M) ck), wr := min h.wr r } := by
 unfold lookM at hn
 cases hfm : findM k M 0 with
 | none => rw [hfm] at hn; cases hn
 | some p =>
  obtain ⟨i, v'⟩ := p
  rw [hfm] at hn
  have hv : v' = v := by simpa using hn
  subst hv
  obtain ⟨_, k', h2, h3⟩ := findM_lt hfm
  rw [Nat.sub_zero] at h2
  have hkk := key_inj hk (hM (k', v') (List.mem_of_getElem? h2)) h3
  subst hkk
  have hen : (ents 0 M)[i]? = some { key := k, val := v', born := 0 + i } := by rw [ents_get, h2]; rfl
  have hmod : (ents 0 M).modify i (fun e => { e with key := k, val := v' }) = ents 0 M := by
   apply List.ext_getElem?
   intro j
   rw [List.getElem?_modify]
   split
   ·rename_i hj
    subst hj
    rw [hen]; rfl
   ·cases (ents 0 M)[j]? <;> rfl
  unfold mapUpdateV
  simp only [hu, keyFree hk, if_true, hr, checkV_eq hd hf hk, findV_eq hd hf hk 0 hM huk, hfm, hen, keeps hk, hmod]
end
end
end Go.AM
namespace Go.AM
section
variable {P : Program} {call : Call'} {e : Tr Value} {o : Oper} {T kt el : TypeId} {m x y : Operand} {r ck nx wr d : Nat} {k v z : Value} {t : Tr AObj} {M : List (Value × Value)} {ks : List Lk} {u : TypeDesc} {ok : Bool}
theorem y_makeMap (ho : o.op = .makeMap T none) : doOp P call e ⟨t, nx, wr⟩ o = some (.map (some nx), ⟨t.set nx (.map [] 0), nx + 1, wr⟩) := by
 rw [do_op (by rw [ho]; simp), ho]; rfl
theorem y_lookYes (ho : o.op = .lookup T m x ok) (hm : ev e m = some (.map (some r))) (hx : ev e x = some k) (hu : P.underlying T = some (.map kt el)) (huk : P.underlying kt = some u) (hd : d ≤ 10000) (hf : flatTy P d kt = some ks) (hk : KeyOk P kt ks k) (hM : ∀ p ∈ M, KeyOk P kt ks p.1)
  (hz : (P.info? el).bind (·.zero) = some z) (hzf : free1 z = true) (hr : t.get r = some (.map (ents 0 M) ck)) (hl : lookM k M = some v) :
  doOp P call e ⟨t, nx, wr⟩ o = some (if ok then .tuple ⟨[v, .bool true]⟩ else v, ⟨t, nx, wr⟩) := by
 rw [do_op (by rw [ho]; simp), ho]
 simp only [aop, hm, hx, lookupV_eq (h := ⟨t, nx, wr⟩) hu huk hd hf hk hM hz hzf hr ok, hl, Option.map_some]
theorem y_lookNo (ho : o.op = .lookup T m x ok) (hm : ev e m = some (.map (some r))) (hx : ev e x = some k) (hu : P.underlying T = some (.map kt el)) (huk : P.underlying kt = some u) (hd : d ≤ 10000) (hf : flatTy P d kt = some ks) (hk : KeyOk P kt ks k) (hM : ∀ p ∈ M, KeyOk P kt ks p.1)
  (hz : (P.info? el).bind (·.zero) = some z) (hzf : free1 z = true) (hr : t.get r = some (.map (ents 0 M) ck)) (hl : lookM k M = none) :
  doOp P call e ⟨t, nx, wr⟩ o = some (if ok then .tuple ⟨[z, .bool false]⟩ else z, ⟨t, nx, wr⟩) := by
 rw [do_op (by rw [ho]; simp), ho]
 simp only [aop, hm, hx, lookupV_eq (h := ⟨t, nx, wr⟩) hu huk hd hf hk hM hz hzf hr ok, hl, Option.map_some]
theorem y_mapNew (ho : o.op = .mapUpdate T m x y) (hm : ev e m = some (.map (some r))) (hx : ev e x = some k) (hy : ev e y = some v) (hu : P.underlying T = some (.map kt el)) (huk : P.underlying kt = some u) (hd : d ≤ 10000) (hf : flatTy P d kt = some ks) (hk : KeyOk P kt ks k) (hM : ∀ p ∈ M, KeyOk P kt ks p.1)
  (hr : t.get r = some (.map (ents 0 M) M.length)) (hl : lookM k M = none) :
  doOp P call e ⟨t, nx, wr⟩ o = some (undef, ⟨t.set r (.map (ents 0 (M ++ [(k, v)])) (M ++ [(k, v)]).length), nx, min wr r⟩) := by
 rw [do_op (by rw [ho]; simp), ho]
 simp only [aop, hm, hx, hy, mapNew_eq (h := ⟨t, nx, wr⟩) hu huk hd hf hk hM hr hl, Option.map_some]
theorem y_mapSame (ho : o.op = .mapUpdate T m x y) (hm : ev e m = some (.map (some r))) (hx : ev e x = some k) (hy : ev e y = some v) (hu : P.underlying T = some (.map kt el)) (huk : P.underlying kt = some u) (hd : d ≤ 10000) (hf : flatTy P d kt = some ks) (hk : KeyOk P kt ks k) (hM : ∀ p ∈ M, KeyOk P kt ks p.1)
  (hr : t.get r = some (.map (ents 0 M) ck)) (hl : lookM k M = some v) :
  doOp P call e ⟨t, nx, wr⟩ o = some (undef, ⟨t.set r (.map (ents 0 M) ck), nx, min wr r⟩) := by
 rw [do_op (by rw [ho]; simp), ho]
 simp only [aop, hm, hx, hy, mapSame_eq (h := ⟨t, nx, wr⟩) hu huk hd hf hk hM hr hl, Option.map_some]
theorem gcM_free {pos : Nat → Option Nat} : ∀ {M : List (Value × Value)} {j : Nat}, (∀ p ∈ M, free1 p.2 = true) → gcM pos (ents j M) = some (ents j M)
 | [], _, _ => rfl
 | (k, v) :: M, j, h => by
  have h1 := h (k, v) (List.mem_cons_self ..)
  have ih := gcM_free (pos := pos) (M := M) (j := j + 1) fun p hp => h p (List.mem_cons_of_mem _ hp)
  unfold gcM at ih ⊢
  simp only [ents, List.mapM_cons, gcV_free h1, Option.map_some, ih]
  rfl
theorem keyA {P : Program} {t : TypeId} {ks : List Lk} {c : List Value} (hg : aggOf P t = some true) (hc : cf ks c = true) : KeyOk P t ks (.agg ⟨c⟩) := by
 refine ⟨?_, hc⟩
 unfold packV; rw [hg]; rfl
theorem findM_append {k : Value} {q : Value × Value} : ∀ {M : List (Value × Value)} {i : Nat}, findM k (M ++ [q]) i = match findM k M i with | some r => some r | none => if eqCs (kc k) (kc q.1) then some (i + M.length, q.2) else none
 | [], i => by simp [findM]
 | (k', v) :: M, i => by
  simp only [List.cons_append, findM]
  split
  ·rfl
  ·rw [findM_append (M := M), List.length_cons, show i + 1 + M.length = i + (M.length + 1) by omega]
theorem lookM_append {k : Value} {q : Value × Value} {M : List (Value × Value)} : lookM k (M ++ [q]) = match lookM k M with | some r => some r | none => if eqCs (kc k) (kc q.1) then some q.2 else none := by
 unfold lookM
 rw [findM_append]
 cases findM k M 0 with
 | none => simp only [Option.map_none]; split <;> rfl
 | some p => rfl
end
theorem min_2 {P : Program} {a b : Int} {tys : Array TypeId} {ty : TypeId} : keep (quick P (Builtin.min_ tys ty ⟨[.int .i64 a, .int .i64 b]⟩)) = some (.int .i64 (min a b)) := by
 have e : keep (quick P (Builtin.min_ tys ty ⟨[.int .i64 a, .int .i64 b]⟩)) = some (.int .i64 (if b < a then b else a)) := by
  by_cases hlt : b < a <;> simp [Builtin.min_, Builtin.min2, keep, hlt] <;> rfl
 rw [e]
 have : (if b < a then b else a) = min a b := by split <;> omega
 rw [this]
theorem max_2 {P : Program} {a b : Int} {tys : Array TypeId} {ty : TypeId} : keep (quick P (Builtin.max_ tys ty ⟨[.int .i64 a, .int .i64 b]⟩)) = some (.int .i64 (max a b)) := by
 have e : keep (quick P (Builtin.max_ tys ty ⟨[.int .i64 a, .int .i64 b]⟩)) = some (.int .i64 (if b > a then b else a)) := by
  by_cases hlt : b > a <;> simp [Builtin.max_, Builtin.max2, keep, hlt] <;> rfl
 rw [e]
 have : (if b > a then b else a) = max a b := by split <;> omega
 rw [this]
theorem x_min {P : Program} {call : Call'} {e : Tr Value} {h : AH} {o : Oper} {c : Call} {a b r : Int} (ho : o.op = .call c) (hc : c.callee = .builtin .min) (ha : evs e c.args.toList = some [.int .i64 a, .int .i64 b]) (hr : min a b = r) : doOp P call e h o = some (.int .i64 r, h) := by
 subst hr
 unfold doOp
 rw [ho]
 simp only [doCall, ha, hc, abuiltin, min_2, free1, free0, List.all_cons, List.all_nil, Bool.and_self, if_true, Option.map_some]
theorem x_max {P : Program} {call : Call'} {e : Tr Value} {h : AH} {o : Oper} {c : Call} {a b r : Int} (ho : o.op = .call c) (hc : c.callee = .builtin .max) (ha : evs e c.args.toList = some [.int .i64 a, .int .i64 b]) (hr : max a b = r) : doOp P call e h o = some (.int .i64 r, h) := by
 subst hr
 unfold doOp
 rw [ho]
 simp only [doCall, ha, hc, abuiltin, max_2, free1, free0, List.all_cons, List.all_nil, Bool.and_self, if_true, Option.map_some]
theorem jout0 {H : AH} {n m : Nat} {d1 d2 : List Value} {E : Int} {b c : Nat} (h : n = 0) (h' : n = m) : some (Value.tuple ⟨[.agg ⟨[outV b 1 n, outV c 1 m]⟩, .int .i64 E]⟩, addRows H (outN n d1 ++ outN m d2)) = some (.tuple ⟨[.agg ⟨[.slice none 0 0, .slice none 0 0]⟩, .int .i64 E]⟩, H) := by
 subst h'; subst h; rfl
theorem jout1 {n m : Nat} {d1 d2 : List Value} {E : Int} {t : Tr AObj} {nx wr : Nat} (h : 0 < n) (h' : n = m) : some (Value.tuple ⟨[.agg ⟨[outV nx 1 n, outV (nx + 1) 1 m]⟩, .int .i64 E]⟩, addRows ⟨t, nx, wr⟩ (outN n d1 ++ outN m d2)) =
  some (.tuple ⟨[.agg ⟨[.slice (some ⟨nx, 0, none⟩) n (n + 1), .slice (some ⟨nx + 1, 0, none⟩) m (m + 1)]⟩, .int .i64 E]⟩, ⟨(t.set nx (.row d1 nx BIG false d1.length)).set (nx + 1) (.row d2 (nx + 1) BIG false d2.length), nx + 1 + 1, wr⟩) := by
 subst h'
 rw [outV_ne (by omega), outV_ne (by omega), outN_ne (by omega), outN_ne (by omega)]; rfl
end Go.AM
namespace Go.AM
open Go
theorem y_bsliceN {P : Program} {call : Call'} {e : Tr Value} {o : Oper} {T el : TypeId} {nx wr sz len : Nat} {z : Value} {cs : List Value} {t : Tr AObj} {ps0 : Array (Nat × Operand)} {ps : List (Nat × Value)}
  (ho : o.op = .buildSlice T len ps0) (hp : evP e ps0.toList = some ps) (hu : P.underlying T = some (.slice el)) (hs : szOf P el = some sz) (hz : (P.info? el).bind (·.zero) = some z) (h0 : 0 < sz) (hb : len * sz ≤ 16777216)
  (hzs : z.cells.size = sz) (hzf : free1 z = true) (hfill : Instr.fill (fun i => some (i * sz, sz)) ⟨zerosC z.cells.toList len⟩ ps = some ⟨cs⟩) :
  doOp P call e ⟨t, nx, wr⟩ o = some (.slice (some ⟨nx, 0, none⟩) len len, ⟨t.set nx (.row cs nx BIG false cs.length), nx + 1, wr⟩) := by
 rw [do_op (by rw [ho]; simp), ho]
 simp only [aop, hp, hu, hs, hz]
 rw [if_pos ⟨hb, hzs, h0, hzf⟩]
 simp only [hfill, newRow]
end Go.AM
namespace Go.AM
open Go
def runDrawQ (P : Program) (call : Call') (ops : Array Oper) (st : St) : Option St :=
 match drawGo P call ops ops.toList st with
 | some (s, infs) => if (infs.all (·.quiet) || tailOk (Region.before ops) (least infs) infs) && decide (s.h.next ≤ BIG) && decide (st.h.wr ≤ BIG) then some s else none
 | none => none
def execQ (P : Program) (call : Call') (rd : Bool) : Nat → Code → St → Option (Ex × St)
 | 0, _, _ => none
 | n + 1, c, st =>
  match c with
  | .skip => some (.normal, st)
  | .label _ => some (.normal, st)
  | .region _ ops d => (if d then runDrawQ P call ops st else runOps P call ops ops.toList st).map fun s => (.normal, s)
  | .seq a b =>
   match execQ P call rd n a st with
   | some (.normal, s) => execQ P call rd n b s
   | r => r
  | .cond c x y =>
   match ev st.e c with
   | some (.bool q) => execQ P call rd n (if q then x else y) st
   | _ => none
  | .block id b =>
   match execQ P call rd n b st with
   | some (.exit i, s) => if i = id then some (.normal, s) else some (.exit i, s)
   | r => r
  | .loop b =>
   match execQ P call rd n b st with
   | some (.normal, s) => execQ P call rd n (.loop b) s
   | r => r
  | .exit id => some (.exit id, st)
  | .ret => some (.ret, st)
  | .rangeFunc g ps assign body => exec P call rd (n + 1) (.rangeFunc g ps assign body) st
  | _ => none
def codeOk : Code → Bool
 | .region _ ops d => !d || drawOk ops
 | .seq a b => codeOk a && codeOk b
 | .cond _ x y => codeOk x && codeOk y
 | .block _ b => codeOk b
 | .loop b => codeOk b
 | .scope b => codeOk b
 | _ => true
def progOk (P : Program) (fs : List FuncId) : Bool := fs.all fun f => match P.funcs[f]? with | some fn => (match fn.body with | some c => codeOk c | none => true) | none => true
theorem tailOk_quiet {b : Array Nat} {w : Nat} {infs : List Inf} (h : infs.all (·.quiet) = true) : tailOk b w infs = true := by
 unfold tailOk tailOk1
 rw [Bool.or_eq_true]
 left
 rw [List.all_eq_true]
 intro j _
 have : (infs.take (j + 1)).all (·.quiet) = true := List.all_eq_true.2 fun x hx => List.all_eq_true.1 h x (List.mem_of_mem_take hx)
 rw [this]
 rfl
section
variable {P : Program} {call : Call'}
theorem runDrawQ_eq {ops : Array Oper} {st s : St} (hd : drawOk ops = true) (h : runDrawQ P call ops st = some s) : runDraw P call ops st = some s := by
 unfold runDrawQ at h
 unfold runDraw
 rw [if_pos hd]
 split at h
 case h_2 => cases h
 rename_i s' infs hg
 rw [hg]
 simp only
 have e : ((infs.all (·.quiet) || tailOk (Region.before ops) (least infs) infs) && decide (s'.h.next ≤ BIG) && decide (st.h.wr ≤ BIG)) = true → (tailOk (Region.before ops) (least infs) infs && decide (s'.h.next ≤ BIG) && decide (st.h.wr ≤ BIG)) = true := by
  intro q
  rw [Bool.and_eq_true, Bool.and_eq_true, Bool.or_eq_true] at q
  rw [Bool.and_eq_true, Bool.and_eq_true]
  refine ⟨⟨?_, q.1.2⟩, q.2⟩
  rcases q.1.1 with q1 | q1
  ·exact tailOk_quiet q1
  ·exact q1
 split at h
 ·rename_i hc; rw [if_pos (e hc)]; exact h
 ·cases h
theorem execQ_eq {rd : Bool} : ∀ (n : Nat) {c : Code} {st : St} {r : Ex × St}, codeOk c = true → execQ P call rd n c st = some r → exec P call rd n c st = some r
 | 0, c, st, r, _, h => by cases h
 | n + 1, c, st, r, hk, h => by
  cases c with
  | skip => exact h
  | label l => exact h
  | region id ops d =>
   simp only [execQ] at h
   simp only [exec]
   cases d with
   | false => exact h
   | true =>
    simp only [if_true] at h ⊢
    cases hq : runDrawQ P call ops st with
    | none => rw [hq] at h; cases h
    | some s =>
     rw [hq] at h
     simp only [codeOk, Bool.not_true, Bool.false_or] at hk
     rw [runDrawQ_eq hk hq]
     exact h
  | seq a b =>
   simp only [codeOk, Bool.and_eq_true] at hk
   simp only [execQ] at h
   simp only [exec]
   cases ha : execQ P call rd n a st with
   | none => rw [ha] at h; cases h
   | some q =>
    rw [ha] at h
    rw [execQ_eq n hk.1 ha]
    obtain ⟨ex, s⟩ := q
    cases ex with
    | normal => exact execQ_eq n hk.2 h
    | exit i => exact h
    | ret => exact h
  | cond c x y =>
   simp only [codeOk, Bool.and_eq_true] at hk
   simp only [execQ] at h
   simp only [exec]
   split at h
   ·rename_i q hq
    rw [hq]
    simp only
    refine execQ_eq n ?_ h
    cases q
    ·exact hk.2
    ·exact hk.1
   ·cases h
  | block id b =>
   simp only [codeOk] at hk
   simp only [execQ] at h
   simp only [exec]
   cases ha : execQ P call rd n b st with
   | none => rw [ha] at h; cases h
   | some q =>
    rw [ha] at h
    rw [execQ_eq n hk ha]
    exact h
  | loop b =>
   simp only [execQ] at h
   simp only [exec]
   cases ha : execQ P call rd n b st with
   | none => rw [ha] at h; cases h
   | some q =>
    rw [ha] at h
    rw [execQ_eq n (by simpa only [codeOk] using hk) ha]
    obtain ⟨ex, s⟩ := q
    cases ex with
    | normal => exact execQ_eq n hk h
    | exit i => exact h
    | ret => exact h
  | exit id => exact h
  | ret => exact h
  | rangeFunc g ps a b => exact h
  | scope b => cases h
  | goto l => cases h
  | refuse w => cases h
theorem progOk_code {fs : List FuncId} (h : progOk P fs = true) {f : FuncId} {fn : Func} {c : Code} (hm : fs.contains f = true) (hf : P.funcs[f]? = some fn) (hb : fn.body = some c) : codeOk c = true := by
 have := List.all_eq_true.1 h f (List.contains_iff_mem.1 hm)
 simp only [hf, hb] at this
 exact this
end
def callT (P : Program) (fs : List FuncId) (tab : Call') : Nat → Call'
 | 0 => tab
 | n + 1 => fun f args h =>
  match tab f args h with
  | some r => some r
  | none =>
   match f with
   | .func f =>
    if fs.contains f then
    match P.funcs[f]? with
    | some fn =>
     match fn.body with
     | some c =>
      match execQ P (callT P fs tab n) false n c ⟨Tr.ofList args 0 .leaf, max args.length fn.ntmps, h⟩ with
      | some (.normal, st) => (resA P st fn.results.toList).map fun vs => (one vs, st.h)
      | some (.ret, st) => (resA P st fn.results.toList).map fun vs => (one vs, st.h)
      | _ => none
     | none => none
    | none => none
    else none
   | .yield l =>
    match h.t.get l with
    | some (.loop r) =>
     match setPs r.sz r.params.toList args r.e with
     | some e0 =>
      match exec P (callT P fs tab n) true n r.assign ⟨e0, r.sz, h⟩ with
      | some (.normal, s1) =>
       match s1.h.t.get l with
       | some (.loop r1) =>
        match r1.state with
        | .ready =>
         match exec P (callT P fs tab n) true n r.body ⟨s1.e, s1.sz, busyA s1.h l r1⟩ with
         | some (ex, s2) =>
          match s2.h.t.get l with
          | some (.loop r2) => some (.bool ex.jump.isNone, roundA s2.h l r2 ex.jump)
          | _ => none
         | none => none
        | _ => none
       | _ => none
      | _ => none
     | none => none
    | _ => none
   | _ => none
theorem callT_sound {P : Program} (hP : Fit P) {fs : List FuncId} (hk : progOk P fs = true) {tab : Call'} (ht : CallSound P tab) : ∀ n, CallSound P (callT P fs tab n)
 | 0 => ht
 | n + 1 => by
  have ih := callT_sound hP hk ht n
  refine ⟨fun f args h r hc => ?_, fun f args h v h' hc => ?_⟩
  ·simp only [callT] at hc
   split at hc
   ·rename_i r' hr'
    exact ht.has _ _ _ _ hr'
   ·split at hc
    case isFalse => cases hc
    split at hc
    ·rename_i fn hfn
     split at hc
     ·rename_i c hb
      exact ⟨fn, hfn, by rw [hb]; rfl⟩
     ·cases hc
    ·cases hc
  ·simp only [callT] at hc
   split at hc
   ·rename_i r' hr'
    cases hc
    exact ht.meets _ _ _ _ _ hr'
   split at hc
   ·rename_i f
    split at hc
    case isFalse => cases hc
    rename_i hmem
    split at hc
    case h_2 => cases hc
    rename_i fn hfn
    split at hc
    case h_2 => cases hc
    rename_i c hb
    split at hc
    ·rename_i st hx
     obtain ⟨vs, h1, h2⟩ := map_inv' hc
     cases h2
     exact func_meets hP.named hP.mix ih hfn hb (execQ_eq n (progOk_code hk hmem hfn hb) hx) (.inl rfl) h1
    ·rename_i st hx
     obtain ⟨vs, h1, h2⟩ := map_inv' hc
     cases h2
     exact func_meets hP.named hP.mix ih hfn hb (execQ_eq n (progOk_code hk hmem hfn hb) hx) (.inr rfl) h1
    ·cases hc
   ·rename_i l
    split at hc
    case h_2 => cases hc
    rename_i r hl
    split at hc
    case h_2 => cases hc
    rename_i e0 hp
    split at hc
    case h_2 => cases hc
    rename_i s1 hx1
    split at hc
    case h_2 => cases hc
    rename_i r1 hl1
    split at hc
    case h_2 => cases hc
    rename_i hst
    split at hc
    case h_2 => cases hc
    rename_i ex s2 hx2
    split at hc
    case h_2 => cases hc
    rename_i r2 hl2
    cases hc
    exact round_meets hP.named hP.mix ih hl hp hx1 hl1 hst hx2 hl2
   ·cases hc
theorem k_exec {P : Program} {call : Call'} {h0 : AH} {n : Nat} {c : Code} {st s : St} {ex : Ex} {Q : Ex → St → Prop} (hP : Fit P) (hcall : CallSound P call) (he : exec P call false n c st = some (ex, s)) (hq : Q ex s) : TriK P h0 c [] st Q := tri_exec hP hcall he hq
def ids0 : Value → List Nat
 | .slice (some ⟨id, _, none⟩) _ _ => [id]
 | _ => []
def ids1 : Value → List Nat
 | .agg a => a.toList.flatMap ids0
 | v => ids0 v
def ids2 : Value → List Nat
 | .tuple a => a.toList.flatMap ids1
 | v => ids1 v
def Ex.isEnd : Ex → Bool
 | .exit _ => false
 | _ => true
def runR (P : Program) (call : Call') (n : Nat) (f : FuncId) (args : List Value) (rows : List (List Value)) : Option (Value × List AObj) :=
 match P.funcs[f]? with
 | some fn =>
  match fn.body with
  | some c =>
   match execQ P call false n c ⟨Tr.ofList args 0 .leaf, max args.length fn.ntmps, cheap rows⟩ with
   | some (ex, s) =>
    match resA P s fn.results.toList with
    | some vs =>
     if ex.isEnd && gcOk rows.length s.h (List.range rows.length ++ ids2 (one vs)) && Nat.ble rows.length s.h.wr then
      match gcV (posOf (List.range rows.length ++ ids2 (one vs))) 9 (one vs), gcH rows.length (posOf (List.range rows.length ++ ids2 (one vs))) s.h 0 (List.range rows.length ++ ids2 (one vs)) with
      | some v, some os => some (v, os)
      | _, _ => none
     else none
    | none => none
   | none => none
  | none => none
 | none => none
theorem runR_meets {P : Program} (hP : Fit P) {f : FuncId} (hk : progOk P [f] = true) {call : Call'} (hcall : CallSound P call) {n : Nat} {args : List Value} {rows new : List (List Value)} {v : Value}
  (h : runR P call n f args rows = some (v, roRows 0 rows ++ newRows rows.length new)) : Meets P (.func f) args (cheap rows) v (rheap rows new) := by
 unfold runR at h
 split at h
 case h_2 => cases h
 rename_i fn hfn
 split at h
 case h_2 => cases h
 rename_i c hb
 split at h
 case h_2 => cases h
 rename_i ex s hx
 split at h
 case h_2 => cases h
 rename_i vs hvs
 split at h
 case isFalse => cases h
 rename_i hc
 simp only [Bool.and_eq_true] at hc
 obtain ⟨⟨hex, hok⟩, hwr⟩ := hc
 split at h
 case h_2 => cases h
 rename_i v' os hv hos
 cases h
 refine meets_of_triK hP hfn hb (k_exec hP hcall (execQ_eq n (progOk_code hk (by simp) hfn hb) hx) (.inr ⟨_, roRows 0 rows ++ newRows rows.length new, rows.length, vs, ?_, ?_, hvs, hv, ?_, hwr, rfl⟩))
 ·cases ex with
  | normal => exact .inl rfl
  | ret => exact .inr rfl
  | exit i => cases hex
 ·rw [cheap_next]; exact hok
 ·rw [cheap_next]; exact hos
theorem con_run {P : Program} (hP : Fit P) {f : FuncId} (hk : progOk P [f] = true) {call : Call'} (hcall : CallSound P call) {n : Nat} {fn : Func} (hfn : P.funcs[f]? = some fn) (hb : fn.body.isSome = true) {ss : List Sh} {spec : Spec}
  (h : ∀ us cs v new, spec us cs = some (v, new) → runR P call n f us cs = some (v, roRows 0 cs ++ newRows cs.length new)) : Con P f (flatC ss spec) :=
 con_flat hfn hb fun us cs v new hs => runR_meets hP hk hcall (h us cs v new hs)
end Go.AM
