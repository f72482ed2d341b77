/-
  An abstract machine for the model, part 3 of 3: what it computes, the model does, whatever is drawn. No conditions beyond those that its theorems name.
-/
import Derived.Test.YtohhcnehcjpekaaSA2
/-
  AM, part 32: contracts by data. What a function does on rows of its own is what it does wherever its arguments lie.
-/
namespace Go.AM

/-- the shape of an argument: without addresses; a function without captures; a slice of elements of k cells; an aggregate of such slices -/
inductive Sh where
  | fr
  | fn
  | sl (k : Nat)
  | ag (ks : List Nat)

def canonS (H : AH) (i k : Nat) : Value → Option (Value × List Value)
  | .slice none 0 0 => some (.slice none 0 0, [])
  | .slice (some ⟨id, off, none⟩) n c =>
    if 0 < k ∧ (c = n ∨ c = n + k) then
      match loadC H id off (n * k) with
      | some cs => if cs.all free0 then some (.slice (some ⟨i, 0, none⟩) n (n + k), cs) else none
      | none => none
    else none
  | _ => none

def canonK (H : AH) : Nat → List Nat → List Value → Option (List Value × List (List Value))
  | _, [], [] => some ([], [])
  | i, k :: ks, v :: vs =>
    match canonS H i k v, canonK H (i + 1) ks vs with
    | some (u, c), some (us, cs) => some (u :: us, c :: cs)
    | _, _ => none
  | _, _, _ => none

def canonL (H : AH) : Nat → List Sh → List Value → Option (List Value × List (List Value))
  | _, [], [] => some ([], [])
  | i, .fr :: ss, v :: vs =>
    if free1 v then
      match canonL H i ss vs with
      | some (us, cs) => some (v :: us, cs)
      | none => none
    else none
  | i, .fn :: ss, v :: vs =>
    match v, canonL H i ss vs with
    | .func (.func f) ⟨[]⟩ ⟨[]⟩, some (us, cs) => some (.func (.func f) ⟨[]⟩ ⟨[]⟩ :: us, cs)
    | _, _ => none
  | i, .sl k :: ss, v :: vs =>
    match canonS H i k v, canonL H (i + 1) ss vs with
    | some (u, c), some (us, cs) => some (u :: us, c :: cs)
    | _, _ => none
  | i, .ag ks :: ss, v :: vs =>
    match v with
    | .agg ⟨l⟩ =>
      match canonK H i ks l with
      | some (u, c) =>
        match canonL H (i + c.length) ss vs with
        | some (us, cs) => some (.agg ⟨u⟩ :: us, c ++ cs)
        | none => none
      | none => none
    | _ => none
  | _, _, _ => none

def roRows : Nat → List (List Value) → List AObj
  | _, [] => []
  | i, d :: r => .row d i BIG true d.length :: roRows (i + 1) r
def newRows : Nat → List (List Value) → List AObj
  | _, [] => []
  | i, d :: r => .row d i BIG false d.length :: newRows (i + 1) r
/-- the heap that holds a call's arguments alone -/
def cheap (rows : List (List Value)) : AH := ⟨Tr.ofList (roRows 0 rows) 0 .leaf, (roRows 0 rows).length, BIG⟩
/-- and its results behind them -/
def rheap (rows new : List (List Value)) : AH := ⟨Tr.ofList (roRows 0 rows ++ newRows rows.length new) 0 .leaf, (roRows 0 rows ++ newRows rows.length new).length, rows.length⟩

def addRows (H : AH) : List (List Value) → AH
  | [] => H
  | d :: r => addRows (newRow H d).2 r

def shp (k n : Nat) : Nat → Option Nat := fun id => if k ≤ id then some (n + (id - k)) else none

abbrev Spec := List Value → List (List Value) → Option (Value × List (List Value))

def flatC (ss : List Sh) (spec : Spec) (args : List Value) (H : AH) : Option (Value × AH) :=
  match canonL H 0 ss args with
  | some (us, cs) =>
    match spec us cs with
    | some (v, new) =>
      if new.all (fun d => d.all free0) then
        match gcV (shp cs.length H.next) 9 v with
        | some u => some (u, addRows H new)
        | none => none
      else none
    | none => none
  | none => none

/-- a contract: what c answers, f meets -/
structure Con (P : Program) (f : FuncId) (c : List Value → AH → Option (Value × AH)) : Prop where
  has : ∃ fn, P.funcs[f]? = some fn ∧ fn.body.isSome = true
  meets : ∀ args h v h', c args h = some (v, h') → Meets P (.func f) args h v h'

def tabOf : List (FuncId × (List Value → AH → Option (Value × AH))) → Call'
  | [], _, _, _ => none
  | (g, c) :: r, f, args, h =>
    match f with
    | .func f' => if f' = g then c args h else tabOf r (.func f') args h
    | _ => none

theorem tab_sound {P : Program} : ∀ {l : List (FuncId × (List Value → AH → Option (Value × AH)))}, (∀ p ∈ l, Con P p.1 p.2) → CallSound P (tabOf l)
  | [], _ => ⟨fun _ _ _ _ h => (by cases h), fun _ _ _ _ _ h => (by cases h)⟩
  | (g, c) :: r, hall => by
    have hc := hall (g, c) (List.mem_cons_self ..)
    have ih := tab_sound (P := P) (l := r) fun p hp => hall p (List.mem_cons_of_mem _ hp)
    constructor
    · intro f args h r' hr
      simp only [tabOf] at hr
      split at hr
      · rename_i hf; rw [hf]; exact hc.has
      · exact ih.has _ _ _ _ hr
    · intro f args h v h' hr
      cases f with
      | func f' =>
        simp only [tabOf] at hr
        split at hr
        · rename_i hf; rw [hf]; exact hc.meets _ _ _ _ hr
        · exact ih.meets _ _ _ _ _ hr
      | _ => cases hr

section
variable {P : Program} {β : Ren} {H : AH} {w : World}

theorem all_free1_mem {c : List Value} {p : Nat} {v : Value} (h : c.all free0 = true) (hp : c[p]? = some v) : free1 v = true := free0_free1 (List.all_eq_true.1 h v (List.mem_of_getElem? hp))
structure RowAt (w : World) (x : Bx) (c : List Value) : Prop where
  lo : x.lo = 0
  lt : x.g < w.heap.size
  ex : ∃ cs el fz, w.heap[x.g]? = some (.cells cs el fz) ∧ cs.size = x.z ∧ ∀ (p : Nat) (v : Value), c[p]? = some v → cs[x.s + p]? = some v

theorem loadC_inv {id off k : Nat} {cs : List Value} (h : loadC H id off k = some cs) : ∃ f, H.fam id = some f ∧ f.lo ≤ off ∧ off + k ≤ f.rb id ∧ cs = (f.data.drop off).take k := by
  unfold loadC at h
  split at h
  · rename_i f hf
    split at h
    · rename_i hc; cases h; exact ⟨f, hf, hc.1, hc.2, rfl⟩
    · cases h
  · cases h

theorem canonS_sound (hr : HR β H w) (hw : Wf H) {i k : Nat} {v v' u : Value} {c : List Value} (hv : VR β v v') (h : canonS H i k v = some (u, c)) :
    ∃ x : Option Bx, (∀ y, x = some y → RowAt w y c) ∧ c.all free0 = true ∧ ∀ β0 : Ren, β0 i = x → VR β0 u v' := by
  unfold canonS at h
  split at h
  · cases h
    refine ⟨none, fun y hy => (by cases hy), rfl, fun β0 _ => ?_⟩
    rw [hv.free0_eq rfl]
    exact .free _ rfl
  · rename_i id off n cp
    split at h
    case isFalse => cases h
    rename_i hk
    obtain ⟨hk0, hcp⟩ := hk
    split at h
    case h_2 => cases h
    rename_i cs hl
    split at h
    case isFalse => cases h
    rename_i hfree
    cases h
    obtain ⟨b, a', cap', hb, hblo, hcr, ha, rfl⟩ := slice_inv hv
    obtain ⟨f, hf, hlo, hrb, hcs⟩ := loadC_inv hl
    obtain ⟨hflo, bc, el, fz, hbc, hbz, hcells, _⟩ := hr.row _ _ _ hb hf
    have hclen : c.length ≤ n * k := by rw [hcs]; exact List.length_take_le _ _
    have cell : ∀ (p : Nat) (u : Value), c[p]? = some u → bc[b.s + (off - b.lo) + p]? = some u := by
      intro p u hp
      have hpl : p < n * k := by
        have := (List.getElem?_eq_some_iff.1 hp).1
        omega
      rw [hcs, List.getElem?_take_of_lt hpl, List.getElem?_drop] at hp
      obtain ⟨u', h1, h2⟩ := hcells (off + p) u (by omega) (by omega) hp
      have hu : free0 u = true := List.all_eq_true.1 hfree u (List.mem_of_getElem? (by rw [hcs, List.getElem?_take_of_lt hpl, List.getElem?_drop]; exact hp))
      rw [h2.free0_eq hu] at h1
      rw [show b.s + (off - b.lo) + p = b.s + (off + p - b.lo) by omega]
      exact h1
    have hg := (hr.dom _ _ hb).2
    have hdl : n * k ≤ c.length := by
      have h1 : f.rb id ≤ f.data.length := by
        unfold Fam.rb
        split
        · rename_i hcur
          rw [hw.curn _ _ hf hcur]
          exact Nat.le_refl _
        · rename_i hcur
          exact hw.stale _ _ hf hcur
      rw [hcs, List.length_take, List.length_drop]
      omega
    by_cases hz : n = 0 ∧ cp = n
    · obtain ⟨hn0, hcpn⟩ := hz
      have hcap : cap' = 0 := by
        rcases hcr with ⟨h1, h2⟩ | ⟨e, h1, h2, _⟩ <;> omega
      have hcnil : c = [] := List.eq_nil_of_length_eq_zero (by rw [hn0] at hclen; omega)
      subst hn0
      subst hcap
      refine ⟨some ⟨b.g, 0, 0, b.z⟩, fun y hy => ?_, hfree, fun β0 hβ => ?_⟩
      · cases hy
        exact ⟨rfl, hg, bc, el, fz, hbc, hbz, fun p v hp => by rw [hcnil] at hp; cases hp⟩
      · exact .slice hβ (Nat.le_refl 0) (.inr ⟨k, hk0, rfl, Nat.le_refl _, by simp⟩) (.inl rfl)
    · refine ⟨some ⟨b.g, b.s + (off - b.lo), 0, b.z⟩, fun y hy => ?_, hfree, fun β0 hβ => ?_⟩
      · cases hy
        exact ⟨rfl, hg, bc, el, fz, hbc, hbz, cell⟩
      · have hcr' : CapR ⟨b.g, b.s + (off - b.lo), 0, b.z⟩ 0 n (n + k) cap' := by
          rcases hcr with ⟨h1, h2⟩ | ⟨e, h1, h2, h3, h4⟩
          · right
            refine ⟨k, hk0, rfl, by omega, ?_⟩
            have hn : 0 < n := by
              rcases Nat.eq_zero_or_pos n with h0 | h0
              · exact absurd ⟨h0, h1⟩ hz
              · exact h0
            have hpos : 0 < n * k := Nat.mul_pos hn hk0
            obtain ⟨u, hu⟩ : ∃ u, c[n * k - 1]? = some u := ⟨_, List.getElem?_eq_getElem (by omega)⟩
            have h5 := cell _ _ hu
            have h6 := (Array.getElem?_eq_some_iff.1 h5).1
            show b.s + (off - b.lo) + (0 - 0) + cap' * k ≤ b.z
            rw [h2]
            omega
          · right
            have he : e = k := by omega
            subst he
            exact ⟨e, h1, rfl, h3, by simpa using h4⟩
        refine .slice hβ (Nat.le_refl 0) hcr' ?_
        rcases ha with h0 | h0
        · exact .inl h0
        · right
          rw [h0]
          simp [Bx.at_]
  · cases h

/-- rows that lie in the world, or are nil -/
def RowsAt (w : World) (xs : List (Option Bx)) (cs : List (List Value)) : Prop :=
  xs.length = cs.length ∧ ∀ (j : Nat) (x : Option Bx) (c : List Value), xs[j]? = some x → cs[j]? = some c → (∀ y, x = some y → RowAt w y c) ∧ c.all free0 = true
/-- β0 maps the numbers from i on to these -/
def Maps (β0 : Ren) (i : Nat) (xs : List (Option Bx)) : Prop := ∀ (j : Nat) (x : Option Bx), xs[j]? = some x → β0 (i + j) = x

theorem RowsAt.nil : RowsAt w [] [] := ⟨rfl, fun j x c h => by cases h⟩
theorem RowsAt.cons {x : Option Bx} {c : List Value} {xs : List (Option Bx)} {cs : List (List Value)} (h1 : ∀ y, x = some y → RowAt w y c) (h2 : c.all free0 = true) (h3 : RowsAt w xs cs) : RowsAt w (x :: xs) (c :: cs) := by
  refine ⟨by simp [h3.1], fun j x' c' hx hc => ?_⟩
  cases j with
  | zero => simp at hx hc; subst hx; subst hc; exact ⟨h1, h2⟩
  | succ j => exact h3.2 j x' c' (by simpa using hx) (by simpa using hc)
theorem RowsAt.append : ∀ {xs ys : List (Option Bx)} {cs ds : List (List Value)}, RowsAt w xs cs → RowsAt w ys ds → RowsAt w (xs ++ ys) (cs ++ ds)
  | [], ys, [], ds, _, h => h
  | [], _, _ :: _, _, h, _ => by have := h.1; simp at this
  | _ :: _, _, [], _, h, _ => by have := h.1; simp at this
  | x :: xs, ys, c :: cs, ds, h, h' => by
    have h0 := h.2 0 x c rfl rfl
    exact RowsAt.cons h0.1 h0.2 (RowsAt.append ⟨by have := h.1; simpa using this, fun j x' c' a b => h.2 (j + 1) x' c' (by simpa using a) (by simpa using b)⟩ h')
theorem Maps.head {β0 : Ren} {i : Nat} {x : Option Bx} {xs : List (Option Bx)} (h : Maps β0 i (x :: xs)) : β0 i = x := h 0 x rfl
theorem Maps.tail {β0 : Ren} {i : Nat} {x : Option Bx} {xs : List (Option Bx)} (h : Maps β0 i (x :: xs)) : Maps β0 (i + 1) xs := fun j y hy => by
  have := h (j + 1) y (by simpa using hy)
  rwa [show i + (j + 1) = i + 1 + j by omega] at this
theorem Maps.left {β0 : Ren} {i : Nat} {xs ys : List (Option Bx)} (h : Maps β0 i (xs ++ ys)) : Maps β0 i xs := fun j y hy => h j y (by rw [List.getElem?_append_left (List.getElem?_eq_some_iff.1 hy).1]; exact hy)
theorem Maps.right {β0 : Ren} {i : Nat} {xs ys : List (Option Bx)} (h : Maps β0 i (xs ++ ys)) : Maps β0 (i + xs.length) ys := fun j y hy => by
  have := h (xs.length + j) y (by rw [List.getElem?_append_right (by omega), Nat.add_sub_cancel_left]; exact hy)
  rwa [← Nat.add_assoc] at this

theorem VRl.cons_inv {v : Value} {l l' : List Value} (h : VRl β (v :: l) l') : ∃ v' m, l' = v' :: m ∧ VR β v v' ∧ VRl β l m := by
  match l', h with
  | [], h => have := h.1; simp at this
  | v' :: m, h => exact ⟨v', m, rfl, h.2 0 _ _ rfl rfl, by have := h.1; simpa using this, fun i a b x y => h.2 (i + 1) a b (by simpa using x) (by simpa using y)⟩

theorem canonK_sound (hr : HR β H w) (hw : Wf H) : ∀ {ks : List Nat} {i : Nat} {vs vs' us : List Value} {cs : List (List Value)}, VRl β vs vs' → canonK H i ks vs = some (us, cs) →
    ∃ xs, RowsAt w xs cs ∧ ∀ β0, Maps β0 i xs → VRl β0 us vs'
  | [], i, [], vs', us, cs, hv, h => by
    cases h
    have : vs' = [] := List.eq_nil_of_length_eq_zero hv.1.symm
    subst this
    exact ⟨[], RowsAt.nil, fun _ _ => .nil⟩
  | [], i, _ :: _, _, _, _, _, h => by cases h
  | _ :: _, i, [], _, _, _, _, h => by cases h
  | k :: ks, i, v :: vs, vs', us, cs, hv, h => by
    obtain ⟨v', m, rfl, hv1, hv2⟩ := hv.cons_inv
    simp only [canonK] at h
    split at h
    case h_2 => cases h
    rename_i u c us' cs' h1 h2
    cases h
    obtain ⟨x, a1, a2, a3⟩ := canonS_sound hr hw hv1 h1
    obtain ⟨xs, b1, b2⟩ := canonK_sound hr hw hv2 h2
    exact ⟨x :: xs, RowsAt.cons a1 a2 b1, fun β0 hm => .cons (a3 β0 hm.head) (b2 β0 hm.tail)⟩

theorem canonL_sound (hr : HR β H w) (hw : Wf H) : ∀ {ss : List Sh} {i : Nat} {vs vs' us : List Value} {cs : List (List Value)}, VRl β vs vs' → canonL H i ss vs = some (us, cs) →
    ∃ xs, RowsAt w xs cs ∧ ∀ β0, Maps β0 i xs → VRl β0 us vs'
  | [], i, [], vs', us, cs, hv, h => by
    cases h
    have : vs' = [] := List.eq_nil_of_length_eq_zero hv.1.symm
    subst this
    exact ⟨[], RowsAt.nil, fun _ _ => .nil⟩
  | [], i, _ :: _, _, _, _, _, h => by cases h
  | s :: _, i, [], _, _, _, _, h => by cases s <;> cases h
  | .fr :: ss, i, v :: vs, vs', us, cs, hv, h => by
    obtain ⟨v', m, rfl, hv1, hv2⟩ := hv.cons_inv
    simp only [canonL] at h
    split at h
    case isFalse => cases h
    rename_i hf
    split at h
    case h_2 => cases h
    rename_i us' cs' h2
    cases h
    obtain ⟨xs, b1, b2⟩ := canonL_sound hr hw hv2 h2
    refine ⟨xs, b1, fun β0 hm => .cons ?_ (b2 β0 hm)⟩
    rw [hv1.free1_eq hf]
    exact .of_free1 hf
  | .fn :: ss, i, v :: vs, vs', us, cs, hv, h => by
    obtain ⟨v', m, rfl, hv1, hv2⟩ := hv.cons_inv
    simp only [canonL] at h
    split at h
    case h_2 => cases h
    rename_i f us' cs' h2
    cases h
    obtain ⟨xs, b1, b2⟩ := canonL_sound hr hw hv2 h2
    refine ⟨xs, b1, fun β0 hm => .cons ?_ (b2 β0 hm)⟩
    cases hv1 with
    | free _ hf => cases hf
    | func m1 m2 m3 m4 =>
      rename_i a' c'
      have e1 : a' = ⟨[]⟩ := Array.eq_empty_of_size_eq_zero m1.symm
      have e2 : c' = ⟨[]⟩ := Array.eq_empty_of_size_eq_zero m3.symm
      subst e1; subst e2
      exact .func rfl (fun i v v' a => by simp at a) rfl (fun i v v' a => by simp at a)
  | .sl k :: ss, i, v :: vs, vs', us, cs, hv, h => by
    obtain ⟨v', m, rfl, hv1, hv2⟩ := hv.cons_inv
    simp only [canonL] at h
    split at h
    case h_2 => cases h
    rename_i u c us' cs' h1 h2
    cases h
    obtain ⟨x, a1, a2, a3⟩ := canonS_sound hr hw hv1 h1
    obtain ⟨xs, b1, b2⟩ := canonL_sound hr hw hv2 h2
    exact ⟨x :: xs, RowsAt.cons a1 a2 b1, fun β0 hm => .cons (a3 β0 hm.head) (b2 β0 hm.tail)⟩
  | .ag ks :: ss, i, v :: vs, vs', us, cs, hv, h => by
    obtain ⟨v', m, rfl, hv1, hv2⟩ := hv.cons_inv
    simp only [canonL] at h
    split at h
    case h_2 => cases h
    rename_i l
    split at h
    case h_2 => cases h
    rename_i u c h1
    split at h
    case h_2 => cases h
    rename_i us' cs' h2
    cases h
    obtain ⟨l', rfl, hl⟩ : ∃ l', v' = .agg ⟨l'⟩ ∧ VRl β l l' := by
      cases hv1 with
      | free _ hf => cases hf
      | agg m1 m2 =>
        rename_i a'
        exact ⟨a'.toList, rfl, by simpa using m1, fun i v v' x y => m2 i v v' (by simpa using x) (by simpa using y)⟩
    obtain ⟨x, a1, a2⟩ := canonK_sound hr hw hl h1
    obtain ⟨xs, b1, b2⟩ := canonL_sound hr hw hv2 h2
    refine ⟨x ++ xs, a1.append b1, fun β0 hm => .cons (VRl.toArr (a2 β0 hm.left)) (b2 β0 ?_)⟩
    rw [← a1.1]
    exact hm.right

theorem roRows_get : ∀ {rows : List (List Value)} {i j : Nat}, (roRows i rows)[j]? = (rows[j]?).map fun d => .row d (i + j) BIG true d.length
  | [], i, j => by simp [roRows]
  | d :: r, i, 0 => by simp [roRows]
  | d :: r, i, j + 1 => by
    simp only [roRows, List.getElem?_cons_succ, roRows_get (rows := r) (i := i + 1), show i + 1 + j = i + (j + 1) by omega]
theorem newRows_get : ∀ {rows : List (List Value)} {i j : Nat}, (newRows i rows)[j]? = (rows[j]?).map fun d => .row d (i + j) BIG false d.length
  | [], i, j => by simp [newRows]
  | d :: r, i, 0 => by simp [newRows]
  | d :: r, i, j + 1 => by
    simp only [newRows, List.getElem?_cons_succ, newRows_get (rows := r) (i := i + 1), show i + 1 + j = i + (j + 1) by omega]
theorem roRows_len : ∀ {rows : List (List Value)} {i : Nat}, (roRows i rows).length = rows.length
  | [], _ => rfl
  | _ :: r, i => by simp [roRows, roRows_len (rows := r)]
theorem newRows_len : ∀ {rows : List (List Value)} {i : Nat}, (newRows i rows).length = rows.length
  | [], _ => rfl
  | _ :: r, i => by simp [newRows, newRows_len (rows := r)]
theorem ofList_get {os : List AObj} {j : Nat} : (Tr.ofList os 0 .leaf).get j = os[j]? := by
  rw [Tr.get_ofList]
  by_cases hi : j < os.length
  · rw [if_pos ⟨Nat.zero_le _, by omega⟩, Nat.sub_zero]
  · rw [if_neg (by omega), List.getElem?_eq_none (by omega)]; rfl
theorem cheap_get {rows : List (List Value)} {j : Nat} : (cheap rows).t.get j = (rows[j]?).map fun d => .row d j BIG true d.length := by
  show (Tr.ofList (roRows 0 rows) 0 .leaf).get j = _
  rw [ofList_get, roRows_get, Nat.zero_add]
theorem cheap_next {rows : List (List Value)} : (cheap rows).next = rows.length := roRows_len
theorem rheap_get {rows new : List (List Value)} {j : Nat} (hj : rows.length ≤ j) : (rheap rows new).t.get j = (new[j - rows.length]?).map fun d => .row d j BIG false d.length := by
  show (Tr.ofList (roRows 0 rows ++ newRows rows.length new) 0 .leaf).get j = _
  rw [ofList_get, List.getElem?_append_right (by rw [roRows_len]; exact hj), newRows_get, roRows_len, show rows.length + (j - rows.length) = j by omega]
theorem rheap_next {rows new : List (List Value)} : (rheap rows new).next = rows.length + new.length := by
  show (roRows 0 rows ++ newRows rows.length new).length = _
  rw [List.length_append, roRows_len, newRows_len]

theorem cheap_fam {rows : List (List Value)} {j : Nat} {f : Fam} (hf : (cheap rows).fam j = some f) : ∃ d, rows[j]? = some d ∧ f = ⟨j, 0, d.length, d, j, BIG, true⟩ := by
  unfold AH.fam at hf
  rw [cheap_get] at hf
  cases hd : rows[j]? with
  | none => rw [hd] at hf; cases hf
  | some d => rw [hd] at hf; cases hf; exact ⟨d, rfl, rfl⟩
theorem cheap_wf (rows : List (List Value)) : Wf (cheap rows) := by
  have hlt : ∀ {j : Nat} {d : List Value}, rows[j]? = some d → j < rows.length := fun h => (List.getElem?_eq_some_iff.1 h).1
  constructor
  · intro j o ho
    rw [cheap_get] at ho
    rw [cheap_next]
    cases hd : rows[j]? with
    | none => rw [hd] at ho; cases ho
    | some d => exact hlt hd
  · intro j f hf
    obtain ⟨d, h1, rfl⟩ := cheap_fam hf
    exact Nat.zero_le _
  · intro j f hf _
    obtain ⟨d, h1, rfl⟩ := cheap_fam hf
    rfl
  · intro j f hf hne
    obtain ⟨d, h1, rfl⟩ := cheap_fam hf
    exact absurd rfl hne
  · intro j f hf
    obtain ⟨d, h1, rfl⟩ := cheap_fam hf
    rw [cheap_next]
    exact hlt h1
  · intro j r lo n ho
    rw [cheap_get] at ho
    cases hd : rows[j]? with
    | none => rw [hd] at ho; cases ho
    | some d => rw [hd] at ho; cases ho

/-- the arguments' rows alone stand for the world -/
theorem cheap_hr {xs : List (Option Bx)} {rows : List (List Value)} (hR : RowsAt w xs rows) : HR (fun i => (xs[i]?).getD none) (cheap rows) w := by
  have at_ : ∀ {id : Nat} {x : Bx}, (xs[id]?).getD none = some x → ∃ d, rows[id]? = some d ∧ RowAt w x d ∧ d.all free0 = true := by
    intro id x hx
    cases hi : xs[id]? with
    | none => rw [hi] at hx; cases hx
    | some y =>
      rw [hi] at hx
      have hx : y = some x := hx
      subst hx
      have hl : id < rows.length := by rw [← hR.1]; exact (List.getElem?_eq_some_iff.1 hi).1
      refine ⟨rows[id], List.getElem?_eq_getElem hl, ?_⟩
      have := hR.2 id _ _ hi (List.getElem?_eq_getElem hl)
      exact ⟨this.1 x rfl, this.2⟩
  constructor
  · intro id x hx
    obtain ⟨d, h1, h2, _⟩ := at_ hx
    rw [cheap_next]
    exact ⟨(List.getElem?_eq_some_iff.1 h1).1, h2.lt⟩
  · intro id x f hx hf
    obtain ⟨d, h1, h2, h3⟩ := at_ hx
    obtain ⟨d', h4, rfl⟩ := cheap_fam hf
    rw [h1] at h4; cases h4
    obtain ⟨cs, el, fz, e1, e2, e3⟩ := h2.ex
    refine ⟨h2.lo, cs, el, fz, e1, e2, fun p v _ _ hp => ?_, fun hro => by cases hro⟩
    refine ⟨v, ?_, .of_free1 (all_free1_mem h3 hp)⟩
    rw [h2.lo, Nat.sub_zero]
    exact e3 p v hp
  · intro id x es ck _ hm
    rw [cheap_get] at hm
    cases hd : rows[id]? with
    | none => rw [hd] at hm; cases hm
    | some d => rw [hd] at hm; cases hm
  · intro id x r _ hm
    rw [cheap_get] at hm
    cases hd : rows[id]? with
    | none => rw [hd] at hm; cases hm
    | some d => rw [hd] at hm; cases hm
  · intro id id' x x' hx hx' _
    obtain ⟨d, h1, _⟩ := at_ hx
    obtain ⟨d', h1', _⟩ := at_ hx'
    right
    refine ⟨⟨id, 0, d.length, d, id, BIG, true⟩, ⟨id', 0, d'.length, d', id', BIG, true⟩, ?_, ?_, .inr ⟨rfl, rfl⟩⟩
    · unfold AH.fam; rw [cheap_get, h1]; rfl
    · unfold AH.fam; rw [cheap_get, h1']; rfl

theorem addRows_next : ∀ {new : List (List Value)} {H : AH}, (addRows H new).next = H.next + new.length
  | [], H => rfl
  | d :: r, H => by
    rw [addRows, addRows_next, List.length_cons]
    show H.next + 1 + r.length = _
    omega
theorem addRows_wr : ∀ {new : List (List Value)} {H : AH}, (addRows H new).wr = H.wr
  | [], H => rfl
  | d :: r, H => by rw [addRows, addRows_wr]; rfl
theorem addRows_old : ∀ {new : List (List Value)} {H : AH} {id : Nat}, id < H.next → (addRows H new).t.get id = H.t.get id
  | [], H, id, _ => rfl
  | d :: r, H, id, h => by
    rw [addRows, addRows_old (show id < (newRow H d).2.next by show id < H.next + 1; omega)]
    exact Tr.get_set_ne _ _ (by omega)
theorem addRows_wf : ∀ {new : List (List Value)} {H : AH}, Wf H → Wf (addRows H new)
  | [], H, h => h
  | d :: r, H, h => by rw [addRows]; exact addRows_wf (wf_newRow h d)
theorem addRows_fam : ∀ {new : List (List Value)} {H : AH} {id : Nat}, Wf H → id < H.next → (addRows H new).fam id = H.fam id
  | [], H, id, _, _ => rfl
  | d :: r, H, id, hw, h => by
    rw [addRows, addRows_fam (wf_newRow hw d) (show id < (newRow H d).2.next by show id < H.next + 1; omega)]
    exact fam_set_next hw h
theorem addRows_new : ∀ {new : List (List Value)} {H : AH} {j : Nat}, Wf H → (addRows H new).t.get (H.next + j) = (new[j]?).map fun d => .row d (H.next + j) BIG false d.length
  | [], H, j, hw => by
    show H.t.get (H.next + j) = none
    cases hg : H.t.get (H.next + j) with
    | none => rfl
    | some o => have := hw.lt _ _ hg; omega
  | d :: r, H, 0, hw => by
    rw [addRows, Nat.add_zero, addRows_old (show H.next < (newRow H d).2.next by show H.next < H.next + 1; omega)]
    exact Tr.get_set_eq _ _ _
  | d :: r, H, j + 1, hw => by
    rw [addRows]
    have := addRows_new (new := r) (H := (newRow H d).2) (j := j) (wf_newRow hw d)
    have e : (newRow H d).2.next + j = H.next + (j + 1) := by show H.next + 1 + j = _; omega
    rw [e] at this
    simpa using this

theorem cheap_ro {xs : List (Option Bx)} {rows : List (List Value)} (hR : RowsAt w xs rows) {id : Nat} {x : Bx} (hx : (xs[id]?).getD none = some x) (hro : roOf (cheap rows) id = false) : False := by
  have hl : id < rows.length := by
    cases hi : xs[id]? with
    | none => rw [hi] at hx; cases hx
    | some y => rw [← hR.1]; exact (List.getElem?_eq_some_iff.1 hi).1
  have : (cheap rows).fam id = some ⟨id, 0, rows[id].length, rows[id], id, BIG, true⟩ := by
    unfold AH.fam
    rw [cheap_get, List.getElem?_eq_getElem hl]
    rfl
  unfold roOf at hro
  rw [this] at hro
  cases hro

theorem lift_sound (hr : HR β H w) (hw : Wf H) {xs : List (Option Bx)} {cs new : List (List Value)} (hR : RowsAt w xs cs) (hnew : ∀ d ∈ new, d.all free0 = true) {w' : World} {β' : Ren}
    (hr' : HR β' (rheap cs new) w') (hE : Evo (fun i => (xs[i]?).getD none) (cheap cs) w β' (rheap cs new) w') :
    HR (fun id => if id < H.next then β id else β' (cs.length + (id - H.next))) (addRows H new) w' ∧ Evo β H w (fun id => if id < H.next then β id else β' (cs.length + (id - H.next))) (addRows H new) w' := by
  have hold : ∀ b, b < w.heap.size → w'.heap[b]? = w.heap[b]? := by
    intro b hb
    rcases hE.frame b hb with h1 | ⟨id, x, k1, _, _, k4⟩
    · exact h1
    · exact (cheap_ro hR k1 k4).elim
  have hβ0 : ∀ j, ((xs[cs.length + j]?).getD none : Option Bx) = none := by
    intro j
    rw [List.getElem?_eq_none (by rw [hR.1]; omega)]
    rfl
  have hblk : ∀ j x, β' (cs.length + j) = some x → w.heap.size ≤ x.g ∧ j < new.length ∧ x.g < w'.heap.size := by
    intro j x hx
    have hd := hr'.dom _ _ hx
    rw [rheap_next] at hd
    refine ⟨?_, by omega, hd.2⟩
    rcases hE.blk _ _ hx (hβ0 j) with h1 | ⟨i0, x0, k1, _, _, k4⟩
    · exact h1
    · exact (cheap_ro hR k1 k4).elim
  have hsub : Sub β (fun id => if id < H.next then β id else β' (cs.length + (id - H.next))) := by
    intro id x hx
    have := (hr.dom _ _ hx).1
    simp only [if_pos this]
    exact hx
  have cas : ∀ {id : Nat} {x : Bx}, (if id < H.next then β id else β' (cs.length + (id - H.next))) = some x → (id < H.next ∧ β id = some x) ∨ (∃ j, id = H.next + j ∧ β' (cs.length + j) = some x) := by
    intro id x hx
    split at hx
    · exact .inl ⟨‹_›, hx⟩
    · exact .inr ⟨id - H.next, by omega, hx⟩
  have famN : ∀ {j : Nat} {f : Fam}, (addRows H new).fam (H.next + j) = some f → ∃ d, new[j]? = some d ∧ f = ⟨H.next + j, 0, d.length, d, H.next + j, BIG, false⟩ := by
    intro j f hf
    unfold AH.fam at hf
    rw [addRows_new hw] at hf
    cases hd : new[j]? with
    | none => rw [hd] at hf; cases hf
    | some d => rw [hd] at hf; cases hf; exact ⟨d, rfl, rfl⟩
  have famR : ∀ {j : Nat} {d : List Value}, new[j]? = some d → (rheap cs new).fam (cs.length + j) = some ⟨cs.length + j, 0, d.length, d, cs.length + j, BIG, false⟩ := by
    intro j d hd
    unfold AH.fam
    rw [rheap_get (Nat.le_add_right _ _), Nat.add_sub_cancel_left, hd]
    rfl
  have nrow : ∀ {j : Nat}, j < new.length → new[j]? = some (new.getD j []) := by
    intro j hj
    rw [List.getD_eq_getElem?_getD, List.getElem?_eq_getElem hj]; rfl
  refine ⟨⟨?_, ?_, ?_, ?_, ?_⟩, ?_⟩
  · intro id x hx
    rw [addRows_next]
    rcases cas hx with ⟨h1, h2⟩ | ⟨j, rfl, h2⟩
    · have := hr.dom _ _ h2
      exact ⟨by omega, Nat.lt_of_lt_of_le this.2 hE.size⟩
    · have := hblk _ _ h2
      exact ⟨by omega, this.2.2⟩
  · intro id x f hx hf
    rcases cas hx with ⟨h1, h2⟩ | ⟨j, rfl, h2⟩
    · rw [addRows_fam hw h1] at hf
      exact (hr.row _ _ _ h2 hf).mono hsub (hold _ (hr.dom _ _ h2).2)
    · obtain ⟨d, hd, rfl⟩ := famN hf
      obtain ⟨hlo, c, el, fz, e1, e2, e3, e4⟩ := hr'.row _ _ _ h2 (famR hd)
      refine ⟨hlo, c, el, fz, e1, e2, fun p v a b hp => ?_, e4⟩
      obtain ⟨v', g1, g2⟩ := e3 p v a (by simpa [Fam.rb] using b) hp
      have hf0 : free0 v = true := List.all_eq_true.1 (hnew d (List.mem_of_getElem? hd)) v (List.mem_of_getElem? hp)
      rw [g2.free0_eq hf0] at g1
      exact ⟨v, g1, .free _ hf0⟩
  · intro id x es ck hx hm
    rcases cas hx with ⟨h1, h2⟩ | ⟨j, rfl, h2⟩
    · rw [addRows_old h1] at hm
      obtain ⟨es', k1, k2⟩ := hr.map _ _ _ _ h2 hm
      exact ⟨es', (hold _ (hr.dom _ _ h2).2).trans k1, k2.mono hsub⟩
    · rw [addRows_new hw, nrow (hblk _ _ h2).2.1] at hm
      cases hm
  · intro id x r hx hm
    rcases cas hx with ⟨h1, h2⟩ | ⟨j, rfl, h2⟩
    · rw [addRows_old h1] at hm
      obtain ⟨r', k1, k2⟩ := hr.loop _ _ _ h2 hm
      exact ⟨r', (hold _ (hr.dom _ _ h2).2).trans k1, k2.mono hsub⟩
    · rw [addRows_new hw, nrow (hblk _ _ h2).2.1] at hm
      cases hm
  · intro id id' x x' hx hx' hg
    rcases cas hx with ⟨h1, h2⟩ | ⟨j, rfl, h2⟩ <;> rcases cas hx' with ⟨h1', h2'⟩ | ⟨j', rfl, h2'⟩
    · rcases hr.disj _ _ _ _ h2 h2' hg with h | ⟨f, f', k1, k2, k3⟩
      · exact .inl h
      · exact .inr ⟨f, f', by rw [addRows_fam hw h1]; exact k1, by rw [addRows_fam hw h1']; exact k2, k3⟩
    · have := (hr.dom _ _ h2).2
      have := (hblk _ _ h2').1
      omega
    · have := (hr.dom _ _ h2').2
      have := (hblk _ _ h2).1
      omega
    · rcases hr'.disj _ _ _ _ h2 h2' hg with h | ⟨f, f', k1, k2, k3⟩
      · left; omega
      · have n1 := nrow (hblk _ _ h2).2.1
        have n2 := nrow (hblk _ _ h2').2.1
        rw [famR n1] at k1; cases k1
        rw [famR n2] at k2; cases k2
        rcases k3 with ⟨k3, _⟩ | ⟨k3, _⟩
        · left
          have k3 : cs.length + j = cs.length + j' := k3
          omega
        · cases k3
  · exact {
      sub := hsub
      new := fun id x hx hn => by
        rcases cas hx with ⟨h1, h2⟩ | ⟨j, rfl, h2⟩
        · rw [h2] at hn; cases hn
        · omega
      all := fun id h1 h2 => by
        rw [addRows_next] at h2
        have := hE.all (cs.length + (id - H.next)) (by rw [cheap_next]; omega) (by rw [rheap_next]; omega)
        simp only [if_neg (show ¬ id < H.next by omega)]
        exact this
      blk := fun id x hx hn => by
        rcases cas hx with ⟨h1, h2⟩ | ⟨j, rfl, h2⟩
        · rw [h2] at hn; cases hn
        · exact .inl (hblk _ _ h2).1
      size := hE.size
      os := hE.os
      tape := hE.tape
      output := hE.output
      frame := fun b hb => .inl (hold b hb)
      next := by rw [addRows_next]; omega
      wr := by rw [addRows_wr]; exact Nat.le_refl _
      root := fun id h1 => by unfold rootOf; rw [addRows_fam hw h1]
      ro := fun id h1 => by unfold roOf; rw [addRows_fam hw h1]
      objs := fun id h1 _ => addRows_old h1 }

theorem con_flat {f : FuncId} {fn : Func} (hfn : P.funcs[f]? = some fn) (hb : fn.body.isSome = true) {ss : List Sh} {spec : Spec} (hm : ∀ us cs v new, spec us cs = some (v, new) → Meets P (.func f) us (cheap cs) v (rheap cs new)) :
    Con P f (flatC ss spec) := by
  refine ⟨⟨fn, hfn, hb⟩, fun args H v h' hc => ?_⟩
  unfold flatC at hc
  split at hc
  case h_2 => cases hc
  rename_i us cs hcan
  split at hc
  case h_2 => cases hc
  rename_i v0 new hspec
  split at hc
  case isFalse => cases hc
  rename_i hfree
  split at hc
  case h_2 => cases hc
  rename_i u hu
  cases hc
  intro F n β w args' hF hr hw hv
  obtain ⟨xs, hR, hmaps⟩ := canonL_sound hr hw hv hcan
  have hv0 := hmaps (fun i => (xs[i]?).getD none) (fun j x hx => by simp [hx])
  have key : CallsIn F n P f ⟨args'⟩ w (Ends' (fun i => (xs[i]?).getD none) (cheap cs) w v0 (rheap cs new)) := hm us cs v0 new hspec F n _ w args' hF (cheap_hr hR) (cheap_wf cs) hv0
  show CallsIn F n P f ⟨args'⟩ w (Ends' β H w v (addRows H new))
  refine key.mono fun e w' he => ?_
  obtain ⟨v', β', rfl, q1, q2, _, q4⟩ := he
  obtain ⟨r1, r2⟩ := lift_sound hr hw hR (fun d hd => List.all_eq_true.1 hfree d hd) q2 q4
  refine ⟨v', _, rfl, gcV_sound (fun id j hj => ?_) 9 hu q1, r1, addRows_wf hw, r2⟩
  unfold shp at hj
  split at hj
  · cases hj
    show (if H.next + (id - cs.length) < H.next then β (H.next + (id - cs.length)) else β' (cs.length + (H.next + (id - cs.length) - H.next))) = β' id
    rw [if_neg (by omega)]
    congr 1
    omega
  · cases hj

theorem meets_start {f : FuncId} {fn : Func} {c : Code} {rows new : List (List Value)} {args : List Value} {sz nx : Nat} {e : Tr Value} {t : Tr AObj} {v : Value} (hP : Fit P) (hfn : P.funcs[f]? = some fn) (hb : fn.body = some c)
    (hz : max args.length fn.ntmps = sz) (he : Tr.ofList args 0 .leaf = e) (ht : Tr.ofList (roRows 0 rows) 0 .leaf = t) (hn : (roRows 0 rows).length = nx)
    (k : TriK P (cheap rows) c [] ⟨e, sz, ⟨t, nx, BIG⟩⟩ (Gives' P fn (cheap rows) v (rheap rows new))) : Meets P (.func f) args (cheap rows) v (rheap rows new) := by
  subst hz; subst he; subst ht; subst hn
  exact meets_of_triK hP hfn hb k
end
end Go.AM

/-
  AM, part 33: slices that came in: nil, or a row from its start.
-/
namespace Go.AM

/-- s is a slice of n elements of k cells: nil, or the row i from its start -/
def Sl (i k n : Nat) (s : Value) : Prop := (s = .slice none 0 0 ∧ n = 0) ∨ s = .slice (some ⟨i, 0, none⟩) n (n + k)

theorem Sl.shape {i k n : Nat} {s : Value} (h : Sl i k n s) : ∃ a c, s = .slice a n c := by
  rcases h with ⟨rfl, rfl⟩ | rfl <;> exact ⟨_, _, rfl⟩
theorem Sl.pos {i k n : Nat} {s : Value} (h : Sl i k n s) (hn : 0 < n) : s = .slice (some ⟨i, 0, none⟩) n (n + k) := by
  rcases h with ⟨_, rfl⟩ | h
  · omega
  · exact h

def slOk (i k : Nat) (c : List Value) : Value → Bool
  | .slice none 0 0 => c.isEmpty
  | .slice (some ⟨j, 0, none⟩) n m => j == i && n * k == c.length && m == n + k
  | _ => false
theorem slOk_sl {i k n : Nat} {c : List Value} {s : Value} (h : slOk i k c s = true) (hk : 0 < k) (hn : c.length = n * k) : Sl i k n s := by
  unfold slOk at h
  split at h
  · left
    rw [List.isEmpty_iff] at h
    subst h
    refine ⟨rfl, ?_⟩
    rcases Nat.eq_zero_or_pos n with h0 | h0
    · exact h0
    · have := Nat.mul_pos h0 hk
      simp at hn; omega
  · right
    rename_i j n' m
    simp only [Bool.and_eq_true, beq_iff_eq] at h
    obtain ⟨⟨rfl, h2⟩, rfl⟩ := h
    have : n' = n := Nat.eq_of_mul_eq_mul_right hk (h2.trans hn)
    rw [this]
  · cases h

section
variable {P : Program} {call : Call'} {e : Tr Value} {h : AH} {o : Oper} {t el : TypeId} {x y : Operand} {i k n sz : Nat} {s : Value} {c : Call} {κ : IntKind} {j : Int} {pos : Nat → Option Nat}
theorem x_lenS (hs : Sl i k n s) (ho : o.op = .call c) (hc : c.callee = .builtin .len) (ha : evs e c.args.toList = some [s]) (ht : c.argTypes[0]? = some t) (hu : P.underlying t = some (.slice el)) :
    doOp P call e h o = some (.int .i64 n, h) := by
  obtain ⟨a, c', rfl⟩ := hs.shape
  exact x_len ho hc ha ht hu
theorem x_indexS (hs : Sl i k n s) (ho : o.op = .indexAddr t x y) (hx : ev e x = some s) (hi : ev e y = some (.int κ j)) (hu : P.underlying t = some (.slice el)) (hz : szOf P el = some sz) (h0 : 0 ≤ j) (h1 : j < n) :
    doOp P call e h o = some (.pointer (some ⟨i, 0 + j.toNat * sz, none⟩), h) := by
  have := hs.pos (by omega)
  subst this
  exact x_index ho hx hi hu hz h0 h1
theorem gcV_sl (hs : Sl i k n s) {d : Nat} (hp : pos i = some i) : gcV pos (d + 1) s = some s := by
  rcases hs with ⟨rfl, rfl⟩ | rfl
  · exact gcV_free rfl
  · exact gcV_slice hp
/-- the whole slice, as a builtin reads it -/
theorem cells_sl (hs : Sl i k n s) (hu : P.underlying t = some (.slice el)) (hz : szOf P el = some k) {d : List Value} (hw : Whole h i d) (hd : d.length = n * k) : cellsV P h t s = some (n, d) := by
  rcases hs with ⟨rfl, rfl⟩ | rfl
  · have : d = [] := List.eq_nil_of_length_eq_zero (by omega)
    subst this; rfl
  · exact cells_row hu hz (l_all hw hd.symm)
end

section
variable {k : Nat} {pos : Nat → Option Nat} {h : AH} {j id : Nat} {d d' dd : List Value} {low n0 n r : Nat} {ro : Bool}
theorem gcO_rowE (hj : Nat.ble k j = true) (hg : h.t.get id = some (.row d id low ro n0)) (hd : gcD pos d = some d') (he : d' = dd) : gcO k pos h j id = some (.row dd j BIG ro dd.length) := by
  subst he; exact gcO_row hj hg hd
theorem gcO_aliasE (hj : Nat.ble k j = true) (hg : h.t.get id = some (.alias r 0 n)) (hr : h.t.get r = some (.row d id low ro n0)) (hd : gcD pos d = some d') (he : d' = dd) : gcO k pos h j id = some (.row dd j BIG ro dd.length) := by
  subst he; exact gcO_alias hj hg hr hd
end

/-- cells that are numbers -/
def toI : Value → Int
  | .int _ n => n
  | _ => 0
def isI : Value → Bool
  | .int .i64 _ => true
  | _ => false
def unints (c : List Value) : List Int := c.map toI
def isInts (c : List Value) : Bool := c.all isI
theorem ints_unints : ∀ {c : List Value}, isInts c = true → ints (unints c) = c
  | [], _ => rfl
  | v :: c, h => by
    simp only [isInts, List.all_cons, Bool.and_eq_true] at h
    have ih := ints_unints (c := c) h.2
    have : v = .int .i64 (toI v) := by
      cases v <;> first | (exfalso; simpa [isI] using h.1) | skip
      rename_i κ n
      cases κ <;> first | rfl | (exfalso; simpa [isI] using h.1)
    simp only [unints, ints, List.map_cons] at ih ⊢
    rw [ih, ← this]
theorem unints_ints (l : List Int) : unints (ints l) = l := by
  induction l with
  | nil => rfl
  | cons n l ih => simp only [unints, ints, List.map_cons, toI] at ih ⊢; rw [ih]
theorem isInts_ints (l : List Int) : isInts (ints l) = true := by
  rw [isInts, List.all_eq_true]
  intro v hv
  obtain ⟨n, _, rfl⟩ := List.mem_map.1 hv
  rfl
/-- cells in elements of k -/
def chunks (k : Nat) (c : List Value) : List (List Value) := (List.range (c.length / k)).map fun i => (c.drop (i * k)).take k
def isRows (ks : List Lk) (c : List Value) : Bool := c.length % ks.length == 0 && (chunks ks.length c).all (cf ks)
theorem chunks_flat {k : Nat} (hk : 0 < k) : ∀ {L : List (List Value)}, (∀ x ∈ L, x.length = k) → chunks k L.flatten = L
  | [], _ => by simp [chunks]
  | x :: L, h => by
    have hx := h x (List.mem_cons_self ..)
    have ih := chunks_flat hk (L := L) fun y hy => h y (List.mem_cons_of_mem _ hy)
    have hl : (x :: L).flatten.length / k = L.flatten.length / k + 1 := by
      rw [List.flatten_cons, List.length_append, hx, Nat.add_comm, Nat.add_div_right _ hk]
    unfold chunks at ih ⊢
    rw [hl, List.range_succ_eq_map, List.map_cons, List.map_map]
    congr 1
    · simp only [Nat.zero_mul, List.drop_zero, List.flatten_cons]
      rw [← hx, List.take_left']
      rfl
    · conv => rhs; rw [← ih]
      apply List.map_congr_left
      intro i _
      simp only [Function.comp_apply, List.flatten_cons, Nat.succ_eq_add_one, Nat.add_mul, Nat.one_mul]
      rw [List.drop_append, List.drop_eq_nil_of_le (by omega), List.nil_append, show i * k + k - x.length = i * k by omega]
theorem flat_chunks {k : Nat} (hk : 0 < k) : ∀ (m : Nat) (c : List Value), c.length = m * k → (chunks k c).flatten = c
  | 0, c, h => by
    have : c = [] := List.eq_nil_of_length_eq_zero (by omega)
    subst this; simp [chunks]
  | m + 1, c, h => by
    rw [Nat.add_mul] at h
    have ih := flat_chunks hk m (c.drop k) (by rw [List.length_drop]; omega)
    have hl : c.length / k = (c.drop k).length / k + 1 := by
      rw [List.length_drop, ← Nat.add_div_right _ hk, Nat.sub_add_cancel (by omega)]
    unfold chunks at ih ⊢
    rw [hl, List.range_succ_eq_map, List.map_cons, List.map_map, List.flatten_cons]
    have e : ((fun i => List.take k (List.drop (i * k) c)) ∘ Nat.succ) = fun i => List.take k (List.drop (i * k) (List.drop k c)) := by
      funext i
      simp only [Function.comp_apply, Nat.succ_eq_add_one, Nat.add_mul, Nat.one_mul, List.drop_drop]
      rw [Nat.add_comm]
    rw [e, ih, Nat.zero_mul, List.drop_zero, List.take_append_drop]
theorem isRows_cfs {ks : List Lk} (hk : 0 < ks.length) {c : List Value} (h : isRows ks c = true) : cfs ks (chunks ks.length c) ∧ (chunks ks.length c).flatten = c := by
  simp only [isRows, Bool.and_eq_true, beq_iff_eq, List.all_eq_true] at h
  refine ⟨h.2, flat_chunks hk (c.length / ks.length) c ?_⟩
  have := Nat.div_add_mod c.length ks.length
  rw [h.1, Nat.mul_comm] at this
  omega
theorem isRows_flat {ks : List Lk} (hk : 0 < ks.length) {L : List (List Value)} (hL : cfs ks L) : isRows ks L.flatten = true ∧ chunks ks.length L.flatten = L := by
  have e := chunks_flat hk fun x hx => cf_len (hL x hx)
  refine ⟨?_, e⟩
  simp only [isRows, Bool.and_eq_true, beq_iff_eq]
  rw [e]
  exact ⟨by rw [cfs_len hL, Nat.mul_mod_left], List.all_eq_true.2 hL⟩
end Go.AM

/-
  AM, part 34: a contract by data, as a caller meets it.
-/
namespace Go.AM

theorem sl_slOk {i k n : Nat} {c : List Value} {s : Value} (h : Sl i k n s) (hn : c.length = n * k) : slOk i k c s = true := by
  rcases h with ⟨rfl, rfl⟩ | rfl
  · have : c = [] := List.eq_nil_of_length_eq_zero (by omega)
    subst this; rfl
  · simp [slOk, hn]

/-- s reads as the cells d, n elements of k cells -/
def Rd (H : AH) (k : Nat) (s : Value) (n : Nat) (d : List Value) : Prop := ∀ j, ∃ u, canonS H j k s = some (u, d) ∧ Sl j k n u

section
variable {H : AH} {k n id i off : Nat} {s : Value} {d : List Value}
theorem rd_nil : Rd H k (.slice none 0 0) 0 [] := fun _ => ⟨_, rfl, .inl ⟨rfl, rfl⟩⟩
theorem rd_row {c : Nat} (hk : 0 < k) (hc : c = n ∨ c = n + k) (hl : loadC H id off (n * k) = some d) (hf : d.all free0 = true) : Rd H k (.slice (some ⟨id, off, none⟩) n c) n d := fun j => by
  refine ⟨.slice (some ⟨j, 0, none⟩) n (n + k), ?_, .inr rfl⟩
  simp only [canonS]
  rw [if_pos ⟨hk, hc⟩]
  simp only [hl, hf, if_true]
theorem rd_whole {c : Nat} (hk : 0 < k) (hc : c = n ∨ c = n + k) (hw : Whole H id d) (hn : n * k = d.length) (hf : d.all free0 = true) : Rd H k (.slice (some ⟨id, 0, none⟩) n c) n d := rd_row hk hc (l_all hw hn) hf
theorem rd_sl (hs : Sl i k n s) (hk : 0 < k) (hw : Whole H i d) (hn : n * k = d.length) (hf : d.all free0 = true) : Rd H k s n d := by
  rcases hs with ⟨rfl, rfl⟩ | rfl
  · have : d = [] := List.eq_nil_of_length_eq_zero (by omega)
    subst this
    exact rd_nil
  · exact rd_whole hk (.inr rfl) hw hn hf
theorem rd_len (h : Rd H k s n d) : ∃ a c, s = .slice a n c := by
  obtain ⟨u, h1, h2⟩ := h 0
  obtain ⟨a, c, rfl⟩ := h2.shape
  unfold canonS at h1
  split at h1
  · cases h1; exact ⟨_, _, rfl⟩
  · split at h1
    case isFalse => cases h1
    split at h1
    case h_2 => cases h1
    split at h1
    case isFalse => cases h1
    cases h1
    exact ⟨_, _, rfl⟩
  · cases h1
end

section
variable {H : AH} {i k n : Nat} {s : Value} {d : List Value} {ss : List Sh} {vs us : List Value} {cs : List (List Value)}
theorem cl_nil : canonL H i [] [] = some ([], []) := rfl
theorem cl_fr {v : Value} (hf : free1 v = true) (h : canonL H i ss vs = some (us, cs)) : canonL H i (.fr :: ss) (v :: vs) = some (v :: us, cs) := by
  simp only [canonL, hf, if_true, h]
theorem cl_fn {f : FuncId} (h : canonL H i ss vs = some (us, cs)) : canonL H i (.fn :: ss) (.func (.func f) ⟨[]⟩ ⟨[]⟩ :: vs) = some (.func (.func f) ⟨[]⟩ ⟨[]⟩ :: us, cs) := by
  simp only [canonL, h]
theorem cl_sl {u : Value} (h1 : canonS H i k s = some (u, d)) (h : canonL H (i + 1) ss vs = some (us, cs)) : canonL H i (.sl k :: ss) (s :: vs) = some (u :: us, d :: cs) := by
  simp only [canonL, h1, h]
theorem cl_ag2 {k' : Nat} {s' u u' : Value} {d' : List Value} (h1 : canonS H i k s = some (u, d)) (h2 : canonS H (i + 1) k' s' = some (u', d')) (h : canonL H (i + 2) ss vs = some (us, cs)) :
    canonL H i (.ag [k, k'] :: ss) (.agg ⟨[s, s']⟩ :: vs) = some (.agg ⟨[u, u']⟩ :: us, d :: d' :: cs) := by
  simp only [canonL, canonK, h1, h2]
  rw [show i + [d, d'].length = i + 2 from rfl, h]
  rfl

theorem flatC_at {spec : Spec} {v u : Value} {new : List (List Value)} (h1 : canonL H 0 ss vs = some (us, cs)) (h2 : spec us cs = some (v, new)) (h3 : new.all (fun d => d.all free0) = true) (h4 : gcV (shp cs.length H.next) 9 v = some u) :
    flatC ss spec vs H = some (u, addRows H new) := by
  simp only [flatC, h1, h2, h3, if_true, h4]
theorem flat_free {spec : Spec} {v : Value} (h1 : canonL H 0 ss vs = some (us, cs)) (h2 : spec us cs = some (v, [])) (h4 : free1 v = true) : flatC ss spec vs H = some (v, H) :=
  flatC_at h1 h2 rfl (gcV_free h4)
theorem shp_at {k n j : Nat} : shp k n (k + j) = some (n + j) := by
  unfold shp; rw [if_pos (by omega), Nat.add_sub_cancel_left]
theorem shp_k {k n : Nat} : shp k n k = some n := shp_at (j := 0)
end

/-- what is appended one by one to nil: nil, or a row of its own -/
def outV (m k n : Nat) : Value := if n = 0 then .slice none 0 0 else .slice (some ⟨m, 0, none⟩) n (n + k)
def outN (n : Nat) (d : List Value) : List (List Value) := if n = 0 then [] else [d]
theorem outV_0 {m k : Nat} : outV m k 0 = .slice none 0 0 := rfl
theorem outN_0 {d : List Value} : outN 0 d = [] := rfl
theorem outV_ne {m k n : Nat} (h : n ≠ 0) : outV m k n = .slice (some ⟨m, 0, none⟩) n (n + k) := if_neg h
theorem outN_ne {n : Nat} {d : List Value} (h : n ≠ 0) : outN n d = [d] := if_neg h
theorem out_gc {k m k' n : Nat} : gcV (shp m n) 9 (outV m k k') = some (outV n k k') := by
  unfold outV
  split
  · exact gcV_free rfl
  · exact gcV_slice shp_k
/-- a caller's view of such an answer -/
theorem rd_out {H : AH} {k n m : Nat} {d : List Value} (hk : 0 < k) (hn : n * k = d.length) (hf : d.all free0 = true) (hw : n ≠ 0 → Whole H m d) : Rd H k (outV m k n) n d := by
  by_cases h : n = 0
  · subst h
    have : d = [] := List.eq_nil_of_length_eq_zero (by omega)
    subst this
    exact rd_nil
  · rw [outV_ne h]
    exact rd_whole hk (.inr rfl) (hw h) hn hf

theorem tab_nil {P : Program} : CallSound P (tabOf []) := tab_sound fun p hp => by cases hp
theorem tab_cons {P : Program} {g : FuncId} {c : List Value → AH → Option (Value × AH)} {r : List (FuncId × (List Value → AH → Option (Value × AH)))} (h : Con P g c) (ht : ∀ p ∈ r, Con P p.1 p.2) : ∀ p ∈ (g, c) :: r, Con P p.1 p.2 := fun p hp => by
  rcases List.mem_cons.1 hp with rfl | hp
  · exact h
  · exact ht p hp
theorem tab_end {P : Program} : ∀ p ∈ ([] : List (FuncId × (List Value → AH → Option (Value × AH)))), Con P p.1 p.2 := fun p hp => by cases hp
theorem tab_hit {g : FuncId} {c : List Value → AH → Option (Value × AH)} {r : List (FuncId × (List Value → AH → Option (Value × AH)))} {args : List Value} {h : AH} : tabOf ((g, c) :: r) (.func g) args h = c args h := by simp only [tabOf, if_true]
theorem tab_miss {g g' : FuncId} {c : List Value → AH → Option (Value × AH)} {r : List (FuncId × (List Value → AH → Option (Value × AH)))} {args : List Value} {h : AH} (hne : g' ≠ g) : tabOf ((g, c) :: r) (.func g') args h = tabOf r (.func g') args h := by
  simp only [tabOf, if_neg hne]
section
variable {P : Program} {call : Call'} {ops : Array Oper} {o : Oper} {rest : List Oper} {e : Tr Value} {n : Nat} {h : AH} {K : St → Prop} {KD : St → List Inf → Prop} {acc : List Inf} {d : Nat} {c : Call} {f : FuncId} {vs : List Value} {t : Tr AObj} {nx wr : Nat}
theorem x_call0 {h' : AH} {v : Value} (ho : o.op = .call c) (hc : c.callee = .value (.func f)) (ha : evs e c.args.toList = some vs) (hcall : call (.func f) vs h = some (v, h')) : doOp P call e h o = some (v, h') := by
  refine x_call ho hc rfl ha ?_
  simpa using hcall
theorem o_call0 (hw : wantedA ops e o = some true) (hd : o.dst = some d) (ho : o.op = .call c) (hc : c.callee = .value (.func f)) (ha : evs e c.args.toList = some vs) (hlt : d < n)
    (k : ∃ v h', call (.func f) vs h = some (v, h') ∧ OpsK P call ops rest ⟨e.set d v, n, h'⟩ K) : OpsK P call ops (o :: rest) ⟨e, n, h⟩ K := by
  obtain ⟨v, h', k1, k2⟩ := k
  exact o_step hw hd (x_call0 ho hc ha k1) hlt k2
theorem o_callF {y : Operand} (hw : wantedA ops e o = some true) (hd : o.dst = some d) (ho : o.op = .call c) (hc : c.callee = .value y) (hy : ev e y = some (.func (.func f) ⟨[]⟩ ⟨[]⟩)) (ha : evs e c.args.toList = some vs) (hlt : d < n)
    (k : ∃ v h', call (.func f) vs h = some (v, h') ∧ OpsK P call ops rest ⟨e.set d v, n, h'⟩ K) : OpsK P call ops (o :: rest) ⟨e, n, h⟩ K := by
  obtain ⟨v, h', k1, k2⟩ := k
  exact o_step hw hd (x_call ho hc hy ha (by simpa using k1)) hlt k2
theorem d_callF {y : Operand} (hw : wantedA ops e o = some true) (hd : o.dst = some d) (ho : o.op = .call c) (hc : c.callee = .value y) (hy : ev e y = some (.func (.func f) ⟨[]⟩ ⟨[]⟩)) (ha : evs e c.args.toList = some vs) (hlt : d < n)
    (k : ∃ v t' nx' wr', call (.func f) vs ⟨t, nx, BIG⟩ = some (v, ⟨t', nx', wr'⟩) ∧ DrawK P call ops rest ⟨e.set d v, n, ⟨t', nx', min wr wr'⟩⟩ (acc ++ [infOf e t nx o.op nx' wr']) KD) : DrawK P call ops (o :: rest) ⟨e, n, ⟨t, nx, wr⟩⟩ acc KD := by
  obtain ⟨v, t', nx', wr', k1, k2⟩ := k
  exact d_step hw hd (x_call ho hc hy ha (by simpa using k1)) hlt k2
theorem d_call0 (hw : wantedA ops e o = some true) (hd : o.dst = some d) (ho : o.op = .call c) (hc : c.callee = .value (.func f)) (ha : evs e c.args.toList = some vs) (hlt : d < n)
    (k : ∃ v t' nx' wr', call (.func f) vs ⟨t, nx, BIG⟩ = some (v, ⟨t', nx', wr'⟩) ∧ DrawK P call ops rest ⟨e.set d v, n, ⟨t', nx', min wr wr'⟩⟩ (acc ++ [infOf e t nx o.op nx' wr']) KD) : DrawK P call ops (o :: rest) ⟨e, n, ⟨t, nx, wr⟩⟩ acc KD := by
  obtain ⟨v, t', nx', wr', k1, k2⟩ := k
  exact d_step hw hd (x_call0 ho hc ha k1) hlt k2
end
theorem rows_len {ks : List Lk} {c : List Value} (hk : 0 < ks.length) (h : isRows ks c = true) : c.length = (chunks ks.length c).length * ks.length := by
  obtain ⟨h1, h2⟩ := isRows_cfs hk h
  rw [← cfs_len h1, h2]
theorem x_build {P : Program} {call : Call'} {e : Tr Value} {h : AH} {o : Oper} {t : TypeId} {parts : Array (Nat × Operand)} {ps : List (Nat × Value)} {z v : Value} (ho : o.op = .build t parts) (hp : evP e parts.toList = some ps) (hz : (P.info? t).bind (·.zero) = some z) (hf : free1 z = true)
    (hv : quick P (Instr.build t ⟨ps⟩) = some v) : doOp P call e h o = some (v, h) := by
  rw [do_op (by rw [ho]; simp), ho]
  simp only [aop, hp, hz, hf, if_true, hv, Option.map_some]
theorem gcV_sliceE {pos : Nat → Option Nat} {d id off n n' k j : Nat} (hp : pos id = some j) (hn : n = n') : gcV pos (d + 1) (.slice (some ⟨id, off, none⟩) n (n + k)) = some (.slice (some ⟨j, off, none⟩) n' (n' + k)) := by
  subst hn; exact gcV_slice hp
section
variable {P : Program} {call : Call'} {e : Tr Value} {h : AH} {o : Oper}
theorem x_fieldK {T : TypeId} {x : Operand} {i : Nat} {id off a k : Nat} {fs : Array Field} {f : Field} (ho : o.op = .fieldAddr T x i) (hx : ev e x = some (.pointer (some ⟨id, off, none⟩))) (hu : P.underlying T = some (.struct fs)) (hf : fs[i]? = some f) (hs : szOf P f.type = some (k + 1))
    (hoff : f.offset = a) : doOp P call e h o = some (.pointer (some ⟨id, off + a, none⟩), h) := x_field ho hx hu hf hs (by rw [hoff])
theorem x_field0 {T : TypeId} {x : Operand} {i : Nat} {id off k : Nat} {fs : Array Field} {f : Field} (ho : o.op = .fieldAddr T x i) (hx : ev e x = some (.pointer (some ⟨id, off, none⟩))) (hu : P.underlying T = some (.struct fs)) (hf : fs[i]? = some f) (hs : szOf P f.type = some (k + 1))
    (hoff : f.offset = 0) : doOp P call e h o = some (.pointer (some ⟨id, off, none⟩), h) := x_field ho hx hu hf hs (by rw [hoff]; rfl)
end
theorem gcD_cons {pos : Nat → Option Nat} {a a' : Value} {d d' : List Value} (h1 : gcV pos 9 a = some a') (h2 : gcD pos d = some d') : gcD pos (a :: d) = some (a' :: d') := by
  have hm : (a :: d).mapM (gcV pos 9) = some (a' :: d') := by
    have h3 : d.mapM (gcV pos 9) = some d' := by
      unfold gcD at h2
      split at h2
      · rename_i hf
        cases h2
        clear h1
        induction d with
        | nil => rfl
        | cons x d ih =>
          simp only [List.all_cons, Bool.and_eq_true] at hf
          rw [List.mapM_cons, gcV_free hf.1, ih hf.2]; rfl
      · exact h2
    rw [List.mapM_cons, h1, h3]; rfl
  unfold gcD
  split
  · rename_i hf
    simp only [List.all_cons, Bool.and_eq_true] at hf
    rw [gcV_free hf.1] at h1
    cases h1
    unfold gcD at h2
    rw [if_pos hf.2] at h2
    cases h2; rfl
  · exact hm
theorem gcD_nil {pos : Nat → Option Nat} : gcD pos [] = some [] := rfl
theorem gcV_fn {pos : Nat → Option Nat} {d : Nat} {f : FuncId} : gcV pos (d + 1) (.func (.func f) ⟨[]⟩ ⟨[]⟩) = some (.func (.func f) ⟨[]⟩ ⟨[]⟩) := rfl
theorem out0 {H : AH} {m k n : Nat} {d : List Value} (h : n = 0) : some (outV m k n, addRows H (outN n d)) = some (.slice none 0 0, H) := by subst h; rfl
theorem out1 {H : AH} {k n : Nat} {d : List Value} (h : 0 < n) : some (outV H.next k n, addRows H (outN n d)) = some (.slice (some ⟨H.next, 0, none⟩) n (n + k), ⟨H.t.set H.next (.row d H.next BIG false d.length), H.next + 1, H.wr⟩) := by
  rw [outV_ne (by omega), outN_ne (by omega)]; rfl
theorem outV_shape {m k n : Nat} : ∃ a c, outV m k n = .slice a n c := by
  unfold outV
  split
  · rename_i h; subst h; exact ⟨_, _, rfl⟩
  · exact ⟨_, _, rfl⟩
theorem x_bslice0 {P : Program} {call : Call'} {e : Tr Value} {h : AH} {o : Oper} {t el : TypeId} {sz : Nat} {z : Value} (ho : o.op = .buildSlice t 0 #[]) (hu : P.underlying t = some (.slice el)) (hs : szOf P el = some sz) (hz : (P.info? el).bind (·.zero) = some z) (h0 : 0 < sz)
    (hzs : z.cells.size = sz) (hzf : free1 z = true) : doOp P call e h o = some (.slice (some ⟨h.next, 0, none⟩) 0 0, ⟨h.t.set h.next (.row [] h.next BIG false 0), h.next + 1, h.wr⟩) := by
  rw [do_op (by rw [ho]; simp), ho]
  simp only [aop, evP, hu, hs, hz, Nat.zero_mul]
  rw [if_pos ⟨Nat.zero_le _, hzs, h0, hzf⟩]
  rfl
theorem gcV_tup2 {pos : Nat → Option Nat} {d : Nat} {a a' b b' : Value} (h1 : gcV pos d a = some a') (h2 : gcV pos d b = some b') : gcV pos (d + 1) (.tuple ⟨[a, b]⟩) = some (.tuple ⟨[a', b']⟩) := by
  have hm : [a, b].mapM (gcV pos d) = some [a', b'] := by simp [h1, h2]
  simp only [gcV]
  rw [if_neg (by simp [free1, free0])]
  rw [hm]; rfl
theorem out_gc' {k m k' n d : Nat} : gcV (shp m n) (d + 1) (outV m k k') = some (outV n k k') := by
  unfold outV
  split
  · exact gcV_free rfl
  · exact gcV_slice shp_k
section
variable {P : Program} {call : Call'} {e : Tr Value} {h : AH} {o : Oper} {T : TypeId} {p x : Operand} {id off k low n0 : Nat} {v : Value} {d d' vs : List Value}
/-- a cell of a box is written -/
theorem x_store1P (ho : o.op = .store T p x) (hp : ev e p = some (.pointer (some ⟨id, off, none⟩))) (hv : ev e x = some v) (hc : v.cells.toList = [v]) (hs : szOf P T = some 1)
    (hr : h.t.get id = some (.row d id low false n0)) (hn : n0 = d.length) (hl : off + 1 ≤ d.length) (h1 : oneC v = true) (hd : splice d off [v] = d') :
    doOp P call e h o = some (undef, ⟨h.t.set id (.row d' id low false d'.length), h.next, min h.wr id⟩) := by
  subst hd
  exact x_storeP ho hp hv hc hs rfl hr hn hl (by simp [h1])
/-- cells of a box are written -/
theorem x_storeAP (ho : o.op = .store T p x) (hp : ev e p = some (.pointer (some ⟨id, off, none⟩))) (hv : ev e x = some (.agg ⟨vs⟩)) (hs : szOf P T = some k) (hk : vs.length = k)
    (hr : h.t.get id = some (.row d id low false n0)) (hn : n0 = d.length) (hl : off + k ≤ d.length) (h1 : vs.all oneC = true) (hd : splice d off vs = d') :
    doOp P call e h o = some (undef, ⟨h.t.set id (.row d' id low false d'.length), h.next, min h.wr id⟩) := by
  subst hd
  exact x_storeP ho hp hv rfl hs hk hr hn hl h1
/-- the literal cells of a box -/
theorem x_loadA' {t : TypeId} {cs : List Value} (ho : o.op = .load t x) (hx : ev e x = some (.pointer (some ⟨id, off, none⟩))) (hg : aggOf P t = some true) (hs : szOf P t = some k) (hr : h.t.get id = some (.row d id low false n0)) (hn : n0 = d.length) (hl : off + k ≤ d.length)
    (hd : (d.drop off).take k = cs) : doOp P call e h o = some (.agg ⟨cs⟩, h) := x_loadA ho hx hg hs (by rw [l_whole (whole_row hr hn) off k hl, hd])
theorem x_load1' {t : TypeId} (ho : o.op = .load t x) (hx : ev e x = some (.pointer (some ⟨id, off, none⟩))) (hg : aggOf P t = some false) (hr : h.t.get id = some (.row d id low false n0)) (hn : n0 = d.length) (hl : off + 1 ≤ d.length)
    (hd : (d.drop off).take 1 = [v]) : doOp P call e h o = some (v, h) := x_load1 ho hx hg (by rw [l_whole (whole_row hr hn) off 1 hl, hd])
end
theorem b_xor8 {P : Program} {t : TypeId} {xo yo : Operand} {a b : Int} : binV P .xor t xo yo (.int .u8 a) (.int .u8 b) = some (.int .u8 (IntKind.u8.wrap ((BitVec.ofInt 8 a ^^^ BitVec.ofInt 8 b).toNat : Int))) := rfl
theorem b_addS {P : Program} {t : TypeId} {xo yo : Operand} {x y : ByteArray} (h : x.size + y.size ≤ 4611686018427387904) : binV P .add t xo yo (.string x) (.string y) = some (.string (x ++ y)) := by
  have e : binV P .add t xo yo (.string x) (.string y) = keep (quick P (Op.stringOp .add x y)) := rfl
  rw [e]
  unfold Op.stringOp
  simp only
  rw [if_neg (by show ¬ ((x.size + y.size : Nat) : Int) > 9223372036854775807; omega)]
  rfl
theorem u64_nonneg (n : Int) : 0 ≤ IntKind.u64.wrap n := by
  simp [IntKind.wrap, IntKind.bits, IntKind.signed]; omega
section
variable {P : Program} {st : St} {a t id k : Nat} {cs : List Value} {r : List ResultVar} {vs : List Value} {v : Value}
theorem resA_nil : resA P st [] = some [] := rfl
theorem resA_tmp (h1 : st.e.get a = some v) (h2 : resA P st r = some vs) : resA P st (.tmp a :: r) = some (v :: vs) := by simp only [resA, h1, h2]
theorem resA_cell (hp : st.e.get a = some (.pointer (some ⟨id, 0, none⟩))) (hg : aggOf P t = some true) (hs : szOf P t = some k) (hl : loadC st.h id 0 k = some cs) (h2 : resA P st r = some vs) : resA P st (.cell a t :: r) = some (.agg ⟨cs⟩ :: vs) := by
  simp only [resA, hp, h2, loadV, hg, hs, hl, Option.map_some]
theorem resA_cell1 (hp : st.e.get a = some (.pointer (some ⟨id, 0, none⟩))) (hg : aggOf P t = some false) (hl : loadC st.h id 0 1 = some [v]) (h2 : resA P st r = some vs) : resA P st (.cell a t :: r) = some (v :: vs) := by
  simp only [resA, hp, h2, loadV, hg, hl, Option.map_some]
end
theorem cf_splice1 : ∀ {ks : List Lk} {d : List Value} {off : Nat} {k : Lk} {v : Value}, cf ks d = true → ks[off]? = some k → k.ok v = true → cf ks (splice d off [v]) = true
  | [], _, _, _, _, _, h, _ => by simp at h
  | k0 :: ks, [], _, _, _, h, _, _ => by cases h
  | k0 :: ks, x :: d, 0, k, v, h, h1, h2 => by
    simp only [List.getElem?_cons_zero, Option.some.injEq] at h1
    subst h1
    simp only [cf, Bool.and_eq_true] at h
    simp only [splice, List.take_zero, List.nil_append, List.length_cons, List.length_nil, Nat.zero_add, List.drop_succ_cons, List.drop_zero, List.cons_append, cf, h2, h.2, Bool.and_self]
  | k0 :: ks, x :: d, off + 1, k, v, h, h1, h2 => by
    simp only [cf, Bool.and_eq_true] at h
    have ih := cf_splice1 (off := off) h.2 (by simpa using h1) h2
    have e : splice (x :: d) (off + 1) [v] = x :: splice d off [v] := by
      simp only [splice, List.take_succ_cons, List.cons_append, List.length_cons, List.length_nil, Nat.zero_add]
      rw [show off + 1 + 1 = (off + 1) + 1 from rfl, List.drop_succ_cons]
    rw [e]
    simp only [cf, h.1, ih, Bool.and_self]
theorem out_gcA {j k m k' n d : Nat} : gcV (shp m n) (d + 1) (outV (m + j) k k') = some (outV (n + j) k k') := by
  unfold outV
  split
  · exact gcV_free rfl
  · exact gcV_slice shp_at
theorem outN_free {n : Nat} {d : List Value} (h : d.all free0 = true) : (outN n d).all (fun d => d.all free0) = true := by
  unfold outN; split
  · rfl
  · simp only [List.all_cons, List.all_nil, Bool.and_true, h]
theorem outN_free2 {n m : Nat} {d e : List Value} (h : d.all free0 = true) (h' : e.all free0 = true) : (outN n d ++ outN m e).all (fun d => d.all free0) = true := by
  rw [List.all_append, outN_free h, outN_free h']; rfl
/-! The same, over a heap that is written out: so that no number is named through a whole heap. -/
section
variable {P : Program} {call : Call'} {e : Tr Value} {o : Oper} {T el : TypeId} {p x : Operand} {id off k low n0 nx wr sz m len : Nat} {v z : Value} {cs d d' vs news : List Value} {t : Tr AObj}
theorem y_boxA (ho : o.op = .box T x) (hx : ev e x = some (.agg ⟨cs⟩)) : doOp P call e ⟨t, nx, wr⟩ o = some (.pointer (some ⟨nx, 0, none⟩), ⟨t.set nx (.row cs nx BIG false cs.length), nx + 1, wr⟩) := x_boxA ho hx
theorem y_box1 (ho : o.op = .box T x) (hx : ev e x = some v) (hc : v.cells.toList = [v]) : doOp P call e ⟨t, nx, wr⟩ o = some (.pointer (some ⟨nx, 0, none⟩), ⟨t.set nx (.row [v] nx BIG false 1), nx + 1, wr⟩) := x_box1 ho hx hc
theorem y_alloc (ho : o.op = .alloc T) (hz : (P.info? T).bind (·.zero) = some z) (hf : free1 z = true) (hc : z.cells.toList = cs) :
    doOp P call e ⟨t, nx, wr⟩ o = some (.pointer (some ⟨nx, 0, none⟩), ⟨t.set nx (.row cs nx BIG false cs.length), nx + 1, wr⟩) := x_alloc ho hz hf hc
theorem y_bsliceA (ho : o.op = .buildSlice T 1 #[(0, x)]) (hx : ev e x = some (.agg ⟨cs⟩)) (hu : P.underlying T = some (.slice el)) (hs : szOf P el = some sz) (hz : (P.info? el).bind (·.zero) = some z) (h0 : 0 < sz)
    (hzs : z.cells.size = sz) (hzf : free1 z = true) (hl : cs.length = sz) (hb : sz ≤ 16777216) : doOp P call e ⟨t, nx, wr⟩ o = some (.slice (some ⟨nx, 0, none⟩) 1 1, ⟨t.set nx (.row cs nx BIG false cs.length), nx + 1, wr⟩) := x_bsliceA ho hx hu hs hz h0 hzs hzf hl hb
theorem y_bsliceV (ho : o.op = .buildSlice T 1 #[(0, x)]) (hx : ev e x = some v) (hc : v.cells.toList = [v]) (hu : P.underlying T = some (.slice el)) (hs : szOf P el = some 1) (hz : (P.info? el).bind (·.zero) = some z)
    (hzs : z.cells.size = 1) (hzf : free1 z = true) : doOp P call e ⟨t, nx, wr⟩ o = some (.slice (some ⟨nx, 0, none⟩) 1 1, ⟨t.set nx (.row [v] nx BIG false 1), nx + 1, wr⟩) := x_bsliceV ho hx hc hu hs hz hzs hzf
theorem y_bslice0 (ho : o.op = .buildSlice T 0 #[]) (hu : P.underlying T = some (.slice el)) (hs : szOf P el = some sz) (hz : (P.info? el).bind (·.zero) = some z) (h0 : 0 < sz)
    (hzs : z.cells.size = sz) (hzf : free1 z = true) : doOp P call e ⟨t, nx, wr⟩ o = some (.slice (some ⟨nx, 0, none⟩) 0 0, ⟨t.set nx (.row [] nx BIG false 0), nx + 1, wr⟩) := x_bslice0 ho hu hs hz h0 hzs hzf
theorem y_storeA (ho : o.op = .store T p x) (hp : ev e p = some (.pointer (some ⟨id, 0, none⟩))) (hv : ev e x = some (.agg ⟨vs⟩)) (hs : szOf P T = some k) (hk : vs.length = k)
    (hr : t.get id = some (.row d id low false n0)) (hn : n0 = k) (hl : k = d.length) (h1 : vs.all oneC = true) :
    doOp P call e ⟨t, nx, wr⟩ o = some (undef, ⟨t.set id (.row vs id low false vs.length), nx, min wr id⟩) := x_storeA ho hp hv hs hk hr hn hl h1
theorem y_store1 (ho : o.op = .store T p x) (hp : ev e p = some (.pointer (some ⟨id, 0, none⟩))) (hv : ev e x = some v) (hc : v.cells.toList = [v]) (hs : szOf P T = some 1)
    (hr : t.get id = some (.row d id low false n0)) (hn : n0 = 1) (hl : 1 = d.length) (h1 : oneC v = true) :
    doOp P call e ⟨t, nx, wr⟩ o = some (undef, ⟨t.set id (.row [v] id low false 1), nx, min wr id⟩) := x_store1 ho hp hv hc hs hr hn hl h1
theorem y_store1P (ho : o.op = .store T p x) (hp : ev e p = some (.pointer (some ⟨id, off, none⟩))) (hv : ev e x = some v) (hc : v.cells.toList = [v]) (hs : szOf P T = some 1)
    (hr : t.get id = some (.row d id low false n0)) (hn : n0 = d.length) (hl : off + 1 ≤ d.length) (h1 : oneC v = true) (hd : splice d off [v] = d') :
    doOp P call e ⟨t, nx, wr⟩ o = some (undef, ⟨t.set id (.row d' id low false d'.length), nx, min wr id⟩) := x_store1P ho hp hv hc hs hr hn hl h1 hd
theorem y_storeAP (ho : o.op = .store T p x) (hp : ev e p = some (.pointer (some ⟨id, off, none⟩))) (hv : ev e x = some (.agg ⟨vs⟩)) (hs : szOf P T = some k) (hk : vs.length = k)
    (hr : t.get id = some (.row d id low false n0)) (hn : n0 = d.length) (hl : off + k ≤ d.length) (h1 : vs.all oneC = true) (hd : splice d off vs = d') :
    doOp P call e ⟨t, nx, wr⟩ o = some (undef, ⟨t.set id (.row d' id low false d'.length), nx, min wr id⟩) := x_storeAP ho hp hv hs hk hr hn hl h1 hd
theorem ya_nil {by' : Nat} (hu : P.underlying T = some (.slice el)) (hi : TyI P el sz by') (h0 : 0 < sz) (hn : news.length = m * sz) (hb : 2 * m * by' ≤ 281474976710656) (hm : m < BIG) (ho : news.all oneC = true) (hm0 : 0 < m) :
    appendV P ⟨t, nx, wr⟩ T (.slice none 0 0) m news = some (.slice (some ⟨nx, 0, none⟩) m (m + sz), ⟨t.set nx (.row news nx BIG false news.length), nx + 1, wr⟩) := a_nil hu hi h0 hn hb hm ho hm0
theorem ya_own {by' : Nat} (hu : P.underlying T = some (.slice el)) (hi : TyI P el sz by') (h0 : 0 < sz) (hn : news.length = m * sz) (hb : 2 * (len + m) * by' ≤ 281474976710656) (hm : len + m < BIG) (ho : news.all oneC = true) (hm0 : 0 < m)
    (hr : t.get id = some (.row d id low false n0)) (hn0 : n0 = d.length) (hd : d.length = len * sz) :
    appendV P ⟨t, nx, wr⟩ T (.slice (some ⟨id, 0, none⟩) len (len + sz)) m news =
      some (.slice (some ⟨nx, 0, none⟩) (len + m) (len + m + sz), ⟨(t.set id (.row (d ++ news) nx low false n0)).set nx (.alias id 0 (len * sz + news.length)), nx + 1, min wr id⟩) := a_own hu hi h0 hn hb hm ho hm0 hr hn0 hd
theorem yout1 {k n : Nat} (h : 0 < n) : some (outV nx k n, addRows ⟨t, nx, wr⟩ (outN n d)) = some (.slice (some ⟨nx, 0, none⟩) n (n + k), ⟨t.set nx (.row d nx BIG false d.length), nx + 1, wr⟩) := out1 (H := ⟨t, nx, wr⟩) h
end
theorem gcV_agg2 {pos : Nat → Option Nat} {d : Nat} {a a' b b' : Value} (h1 : gcV pos d a = some a') (h2 : gcV pos d b = some b') (hd : 0 < d) : gcV pos (d + 1) (.agg ⟨[a, b]⟩) = some (.agg ⟨[a', b']⟩) := by
  obtain ⟨d, rfl⟩ : ∃ e, d = e + 1 := ⟨d - 1, by omega⟩
  have hm : [a, b].mapM (gcV pos (d + 1)) = some [a', b'] := by simp [h1, h2]
  by_cases hf : free1 (.agg ⟨[a, b]⟩) = true
  · have h0 : free0 a = true ∧ free0 b = true := by
      have : [a, b].all free0 = true := hf
      simpa using this
    rw [gcV_free (free0_free1 h0.1)] at h1
    rw [gcV_free (free0_free1 h0.2)] at h2
    cases h1; cases h2
    exact gcV_free hf
  · rw [gcV]
    rw [if_neg hf]
    show (([a, b].mapM (gcV pos (d + 1))).map fun a' => Value.agg ⟨a'⟩) = _
    rw [hm]; rfl
end Go.AM

/-
  AM, part 35: maps whose keys are aggregates without addresses, or numbers.
-/
namespace Go.AM

section
variable {P : Program}

theorem q_checkFields {b : Bool} {n : Nat} {cs : Array Value} (fs : List Field) (h : ∀ f ∈ fs, f.name ≠ "_" → ∃ v, quick P (part f.type cs f.offset) = some v ∧ quick P (Instr.checkKey b n f.type v) = some ()) :
    quick P (do
      for f in fs do
        if f.name ≠ "_" then Instr.checkKey b n f.type (← part f.type cs f.offset)) = some () := by
  induction fs with
  | nil => rfl
  | cons f fs ih =>
    have ih := ih fun g hg => h g (List.mem_cons_of_mem _ hg)
    simp only [List.forIn_cons, bind_assoc]
    split
    · rename_i hn
      obtain ⟨v, h1, h2⟩ := h f (List.mem_cons_self ..) hn
      simp only [bind_assoc, quick_bind, h1, h2, Option.bind_some, q_pure] at ih ⊢
      exact ih
    · simp only [quick_bind, q_pure, Option.bind_some] at ih ⊢
      exact ih

theorem q_checkItems {b : Bool} {n k : Nat} {e : TypeId} {cs : Array Value} (he : szOf P e = some k) (is : List Nat) (h : ∀ i ∈ is, ∃ v, quick P (part e cs (i * k)) = some v ∧ quick P (Instr.checkKey b n e v) = some ()) :
    quick P (do for i in is do Instr.checkKey b n e (← part e cs (i * (← sizeOf e)))) = some () := by
  induction is with
  | nil => rfl
  | cons i is ih =>
    have ih := ih fun g hg => h g (List.mem_cons_of_mem _ hg)
    obtain ⟨v, h1, h2⟩ := h i (List.mem_cons_self ..)
    simp only [List.forIn_cons, bind_assoc, quick_bind, q_size he, h1, h2, Option.bind_some, q_pure] at ih ⊢
    exact ih

theorem rep_at {α : Type} {kf : List α} : ∀ {n i : Nat}, i < n → (((List.replicate n kf).flatten).drop (i * kf.length)).take kf.length = kf
  | 0, _, h => by omega
  | n + 1, 0, _ => by
    rw [List.replicate_succ, List.flatten_cons, Nat.zero_mul, List.drop_zero, List.take_left']; rfl
  | n + 1, i + 1, h => by
    rw [List.replicate_succ, List.flatten_cons, Nat.add_mul, Nat.one_mul, Nat.add_comm, ← List.drop_drop, List.drop_left' rfl]
    exact rep_at (by omega)

theorem check_flat : ∀ (d : Nat) (t : TypeId) (ks : List Lk), flatTy P d t = some ks → ∀ (D : Nat) (b : Bool) (xs : List Value) (x : Value), cf ks xs = true → packV P t xs = some x → quick P (Instr.checkKey b (D + d) t x) = some ()
  | 0, _, _, h => by cases h
  | d + 1, t, ks, h => by
    intro D b xs x cx px
    have ih := fun t ks h => check_flat d t ks h D b
    have one : ∀ k0 : Lk, ks = [k0] → ∃ v, xs = [v] ∧ k0.ok v = true := fun k0 e => by
      subst e
      have := cf_len cx
      match xs, this, cx with
      | [v], _, hc => exact ⟨v, rfl, by simpa [cf] using hc⟩
    unfold flatTy at h
    unfold packV aggOf at px
    show quick P (Instr.checkKey b (D + d + 1) t x) = _
    split at h
    · rename_i hu
      cases h
      rw [hu] at px
      obtain ⟨a, rfl, ha⟩ := one _ rfl
      cases px
      unfold Instr.checkKey
      rw [q_bind (run_und hu)]
      cases x <;> first | rfl | cases ha
    · rename_i k hu
      cases h
      rw [hu] at px
      obtain ⟨a, rfl, ha⟩ := one _ rfl
      cases px
      unfold Instr.checkKey
      rw [q_bind (run_und hu)]
      cases x <;> first | rfl | cases ha
    · rename_i hu
      cases h
      rw [hu] at px
      obtain ⟨a, rfl, ha⟩ := one _ rfl
      cases px
      unfold Instr.checkKey
      rw [q_bind (run_und hu)]
      cases x <;> first | rfl | cases ha
    · rename_i fs hu
      split at h
      · cases h
      rw [hu] at px
      cases px
      unfold Instr.checkKey
      rw [q_bind (run_und hu)]
      simp only
      rw [← Array.forIn_toList]
      refine q_checkFields fs.toList fun f hf hn => ?_
      have key : ∀ (fs : List Field) (off : Nat) (ks : List Lk), flatFs P (flatTy P d) fs off = some ks → off + ks.length = xs.length → cf ks (xs.drop off) = true → f ∈ fs → ∃ v, quick P (part f.type ⟨xs⟩ f.offset) = some v ∧ quick P (Instr.checkKey b (D + d) f.type v) = some () := by
        intro fs
        induction fs with
        | nil => intro off ks _ _ _ hm; cases hm
        | cons g fs ihf =>
          intro off ks hff hl hc hm
          simp only [flatFs] at hff
          split at hff
          case h_2 => cases hff
          rename_i kf k hf' hk
          split at hff
          case isFalse => cases hff
          rename_i hcond
          obtain ⟨_, ho, hlk⟩ := hcond
          obtain ⟨kr, h3, h4⟩ := map_inv' hff
          subst h4
          simp only [List.length_append] at hl
          have p1 := cf_take k hc
          have p2 := cf_drop k hc
          rw [List.take_append_of_le_length (by omega), List.take_of_length_le (by omega)] at p1
          rw [List.drop_append_of_le_length (by omega), List.drop_eq_nil_of_le (by omega), List.nil_append, List.drop_drop] at p2
          rcases List.mem_cons.1 hm with rfl | hm
          · obtain ⟨vx, hx⟩ := part_at hf' p1
            refine ⟨vx, ?_, ih _ _ hf' _ _ p1 hx⟩
            rw [ho]
            exact q_part hk hx (by omega)
          · exact ihf (off + k) kr h3 (by omega) p2 hm
      have hl := cf_len cx
      exact key fs.toList 0 ks h (by omega) (by simpa using cx) hf
    · rename_i n e hu
      split at h
      case h_2 => cases h
      rename_i kf k hf hk
      split at h
      case isFalse => cases h
      rename_i hlk
      cases h
      rw [hu] at px
      cases px
      have hl := cf_len cx
      have hr : ((List.replicate n kf).flatten).length = n * k := by simp [hlk]
      unfold Instr.checkKey
      rw [q_bind (run_und hu)]
      simp only [Std.Legacy.Range.forIn_eq_forIn_range', Std.Legacy.Range.size, Nat.sub_zero, Nat.add_one_sub_one, Nat.div_one]
      refine q_checkItems hk _ fun i hi => ?_
      have hin : i < n := by simpa using hi
      have hik : i * k + k ≤ n * k := by
        have : (i + 1) * k ≤ n * k := Nat.mul_le_mul_right _ (by omega)
        rw [Nat.add_mul] at this
        omega
      have hp : cf kf ((xs.drop (i * k)).take k) = true := cf_part (i * k) k cx (by rw [← hlk]; exact rep_at hin)
      obtain ⟨vx, hx⟩ := part_at hf hp
      exact ⟨vx, q_part hk hx (by omega), ih _ _ hf _ _ hp hx⟩
    · cases h

/-- the cells of a key -/
def kc (v : Value) : List Value := v.cells.toList
/-- v is a key of leaves ks of the type t -/
def KeyOk (P : Program) (t : TypeId) (ks : List Lk) (v : Value) : Prop := packV P t (kc v) = some v ∧ cf ks (kc v) = true
/-- the entries of a map into which these were put one after another -/
def ents : Nat → List (Value × Value) → List MapEntry
  | _, [] => []
  | i, (k, v) :: r => { key := k, val := v, born := i } :: ents (i + 1) r
def findM (k : Value) : List (Value × Value) → Nat → Option (Nat × Value)
  | [], _ => none
  | (k', v) :: r, i => if eqCs (kc k) (kc k') then some (i, v) else findM k r (i + 1)
/-- what a map holds at a key -/
def lookM (k : Value) (M : List (Value × Value)) : Option Value := (findM k M 0).map (·.2)

variable {d : Nat} {kt : TypeId} {ks : List Lk}
theorem q_eqK (hd : d ≤ 10000) (hf : flatTy P d kt = some ks) {k k' : Value} (h : KeyOk P kt ks k) (h' : KeyOk P kt ks k') : quick P (Op.equal kt k k') = some (eqCs (kc k) (kc k')) := by
  have := eq_flat d kt ks hf (10000 - d) _ _ _ _ h.2 h'.2 h.1 h'.1
  rw [show 10000 - d + d = 10000 by omega] at this
  exact this
theorem sameNow_eq {u : TypeDesc} {a b : Value} {r : Bool} (h : Instr.sameNow u a b = some r) : r = eqCs (kc a) (kc b) := by
  unfold Instr.sameNow at h
  split at h
  · split at h
    · rename_i k n k' n' hk
      cases h
      subst hk
      show (n == n') = (decide (k = k) && decide (n = n') && true)
      simp
      rfl
    · cases h
  · cases h
    rename_i x y
    show (x == y) = (x.toList == y.toList && true)
    rw [beq_toListBytes, Bool.and_true]
  · cases h
    rename_i x y
    show (x == y) = (x == y && true)
    rw [Bool.and_true]
  · cases h
theorem findNow_eq {u : TypeDesc} {k : Value} : ∀ {M : List (Value × Value)} {j i : Nat} {r : Option (Nat × Value)}, Instr.findNow u k (ents j M) i = some r → r = findM k M i
  | [], j, i, r, h => by cases h; rfl
  | (k', v) :: M, j, i, r, h => by
    simp only [ents, Instr.findNow] at h
    split at h
    · rename_i hs
      cases h
      have := sameNow_eq hs
      simp only [findM]
      rw [← this]; rfl
    · rename_i hs
      have := sameNow_eq hs
      simp only [findM]
      rw [← this]
      exact findNow_eq h
    · cases h
theorem findAsk_eq (hd : d ≤ 10000) (hf : flatTy P d kt = some ks) {k : Value} (hk : KeyOk P kt ks k) : ∀ {M : List (Value × Value)} (j i : Nat), (∀ p ∈ M, KeyOk P kt ks p.1) → quick P (Instr.findAsking kt k (ents j M) i) = some (findM k M i)
  | [], j, i, _ => rfl
  | (k', v) :: M, j, i, hM => by
    have h1 := q_eqK hd hf hk (hM (k', v) (List.mem_cons_self ..))
    have ih := findAsk_eq hd hf hk (M := M) (j + 1) (i + 1) fun p hp => hM p (List.mem_cons_of_mem _ hp)
    simp only [ents, Instr.findAsking, findM]
    rw [q_bind h1]
    cases eqCs (kc k) (kc k')
    · exact ih
    · rfl
theorem findV_eq (hd : d ≤ 10000) (hf : flatTy P d kt = some ks) {k : Value} (hk : KeyOk P kt ks k) {M : List (Value × Value)} (j : Nat) (hM : ∀ p ∈ M, KeyOk P kt ks p.1) {u : TypeDesc} (hu : P.underlying kt = some u) : findV P kt k (ents j M) = some (findM k M 0) := by
  unfold findV Instr.findKey
  rw [q_bind (run_und hu)]
  cases h : Instr.findNow u k (ents j M) 0 with
  | some r => rw [findNow_eq h]; rfl
  | none => exact findAsk_eq hd hf hk j 0 hM
theorem checkV_eq (hd : d ≤ 10000) (hf : flatTy P d kt = some ks) {k : Value} (hk : KeyOk P kt ks k) (b : Bool) : quick P (Instr.checkKey b 10000 kt k) = some () := by
  have := check_flat d kt ks hf (10000 - d) b _ _ hk.2 hk.1
  rw [show 10000 - d + d = 10000 by omega] at this
  exact this
theorem findM_lt {k : Value} : ∀ {M : List (Value × Value)} {i j : Nat} {v : Value}, findM k M i = some (j, v) → i ≤ j ∧ ∃ k', M[j - i]? = some (k', v) ∧ eqCs (kc k) (kc k') = true
  | [], _, _, _, h => by cases h
  | (k', v') :: M, i, j, v, h => by
    simp only [findM] at h
    split at h
    · cases h
      exact ⟨Nat.le_refl _, k', by simp, ‹_›⟩
    · obtain ⟨h1, k2, h2, h3⟩ := findM_lt h
      refine ⟨by omega, k2, ?_, h3⟩
      rw [show j - i = (j - (i + 1)) + 1 by omega]
      simpa using h2
theorem ents_get : ∀ {M : List (Value × Value)} {j i : Nat}, (ents j M)[i]? = (M[i]?).map fun p => { key := p.1, val := p.2, born := j + i }
  | [], _, _ => by simp [ents]
  | (k, v) :: M, j, 0 => by simp [ents]
  | (k, v) :: M, j, i + 1 => by
    simp only [ents, List.getElem?_cons_succ, ents_get (M := M) (j := j + 1), show j + 1 + i = j + (i + 1) by omega]
theorem ents_len : ∀ {M : List (Value × Value)} {j : Nat}, (ents j M).length = M.length
  | [], _ => rfl
  | (_, _) :: M, j => by simp [ents, ents_len (M := M)]
theorem ents_append : ∀ {M : List (Value × Value)} {j : Nat} {k v : Value}, ents j (M ++ [(k, v)]) = ents j M ++ [{ key := k, val := v, born := j + M.length }]
  | [], j, _, _ => by simp [ents]
  | (_, _) :: M, j, k, v => by
    simp only [List.cons_append, ents, ents_append (M := M), List.length_cons, show j + 1 + M.length = j + (M.length + 1) by omega]

section
variable {h : AH} {t el : TypeId} {r ck : Nat} {k z : Value} {M : List (Value × Value)} {u : TypeDesc}
theorem keyFree (hk : KeyOk P kt ks k) : free1 k = true := by
  have h1 := cf_free0 hk.2
  have h2 := hk.1
  unfold packV at h2
  split at h2
  · cases hk2 : k with
    | agg a => rw [hk2] at h1; exact h1
    | _ => rw [hk2] at h2; cases h2
  · rename_i v hv
    cases h2
    rw [hv] at h1
    have : free0 k = true := by simpa using h1
    exact free0_free1 this
  · cases h2
theorem lookupV_eq (hu : P.underlying t = some (.map kt el)) (huk : P.underlying kt = some u) (hd : d ≤ 10000) (hf : flatTy P d kt = some ks) (hk : KeyOk P kt ks k) (hM : ∀ p ∈ M, KeyOk P kt ks p.1) (hz : (P.info? el).bind (·.zero) = some z) (hzf : free1 z = true)
    (hr : h.t.get r = some (.map (ents 0 M) ck)) (ok : Bool) :
    lookupV P h t (.map (some r)) k ok = some (match lookM k M with | some v => if ok then .tuple ⟨[v, .bool true]⟩ else v | none => if ok then .tuple ⟨[z, .bool false]⟩ else z) := by
  unfold lookupV
  simp only [hu, keyFree hk, if_true, mapOf, hr, hz, checkV_eq hd hf hk, findV_eq hd hf hk 0 hM huk]
  unfold lookM
  cases hfm : findM k M 0 with
  | none => simp only [Option.map_none, hzf, if_true]
  | some p => rfl
theorem mapNew_eq {v : Value} (hu : P.underlying t = some (.map kt el)) (huk : P.underlying kt = some u) (hd : d ≤ 10000) (hf : flatTy P d kt = some ks) (hk : KeyOk P kt ks k) (hM : ∀ p ∈ M, KeyOk P kt ks p.1)
    (hr : h.t.get r = some (.map (ents 0 M) M.length)) (hn : lookM k M = none) :
    mapUpdateV P h t (.map (some r)) k v = some { h with t := h.t.set r (.map (ents 0 (M ++ [(k, v)])) (M ++ [(k, v)]).length), wr := min h.wr r } := by
  have hfm : findM k M 0 = none := by
    unfold lookM at hn
    cases hh : findM k M 0 with
    | none => rfl
    | some p => rw [hh] at hn; cases hn
  unfold mapUpdateV
  simp only [hu, keyFree hk, if_true, hr, checkV_eq hd hf hk, findV_eq hd hf hk 0 hM huk, hfm]
  rw [ents_append, Nat.zero_add, List.length_append]
  rfl

theorem leaf_bits {n : Nat} {l : Lk} {v : Value} (h : l.ok v = true) : Instr.sameBits n v v = true := by
  cases l <;> cases v <;> first | (exfalso; simp [Lk.ok] at h; done) | (cases n <;> simp [Instr.sameBits, beq_toListBytes])
theorem cells_bits {n : Nat} : ∀ {ks : List Lk} {cs : List Value}, cf ks cs = true → ((cs.zip cs).all fun (x, y) => Instr.sameBits n x y) = true
  | [], [], _ => rfl
  | [], _ :: _, h => by cases h
  | _ :: _, [], h => by cases h
  | k :: ks, v :: cs, h => by
    simp only [cf, Bool.and_eq_true] at h
    simp only [List.zip_cons_cons, List.all_cons, leaf_bits h.1, cells_bits h.2, Bool.and_self]
theorem key_bits {k : Value} (hk : KeyOk P kt ks k) : Instr.sameBits 10000 k k = true := by
  obtain ⟨h1, h2⟩ := hk
  unfold packV at h1
  split at h1
  · cases k with
    | agg a =>
      have := cells_bits (n := 9999) h2
      show (a.size == a.size && (a.toList.zip a.toList).all fun (x, y) => Instr.sameBits 9999 x y) = true
      rw [show ((a.toList.zip a.toList).all fun (x, y) => Instr.sameBits 9999 x y) = true from this]
      simp
    | _ => cases h1
  · rename_i v hv
    cases h1
    rw [hv] at h2
    match ks, h2 with
    | [l], h2 => exact leaf_bits (by simpa [cf] using h2)
    | [], h2 => cases h2
    | _ :: _ :: _, h2 => simp [cf] at h2
  · cases h1
theorem key_inj {k k' : Value} (h : KeyOk P kt ks k) (h' : KeyOk P kt ks k') (he : eqCs (kc k) (kc k') = true) : k = k' := by
  have := (eqCs_iff h.2).1 he
  have h1 := h.1
  rw [this, h'.1] at h1
  exact (Option.some.inj h1).symm
theorem keeps {k : Value} (hk : KeyOk P kt ks k) : quick P (Instr.keyThatStays k k) = some k := by
  unfold Instr.keyThatStays
  rw [key_bits hk]
  rfl
theorem mapSame_eq {h : AH} {t el : TypeId} {r ck : Nat} {k v : Value} {M : List (Value × Value)} {u : TypeDesc} (hu : P.underlying t = some (.map kt el)) (huk : P.underlying kt = some u) (hd : d ≤ 10000) (hf : flatTy P d kt = some ks) (hk : KeyOk P kt ks k) (hM : ∀ p ∈ M, KeyOk P kt ks p.1)
    (hr : h.t.get r = some (.map (ents 0 M) ck)) (hn : lookM k M = some v) :
    mapUpdateV P h t (.map (some r)) k v = some { h with t := h.t.set r (.map (ents 0 M) ck), wr := min h.wr r } := by
  unfold lookM at hn
  cases hfm : findM k M 0 with
  | none => rw [hfm] at hn; cases hn
  | some p =>
    obtain ⟨i, v'⟩ := p
    rw [hfm] at hn
    have hv : v' = v := by simpa using hn
    subst hv
    obtain ⟨_, k', h2, h3⟩ := findM_lt hfm
    rw [Nat.sub_zero] at h2
    have hkk := key_inj hk (hM (k', v') (List.mem_of_getElem? h2)) h3
    subst hkk
    have hen : (ents 0 M)[i]? = some { key := k, val := v', born := 0 + i } := by rw [ents_get, h2]; rfl
    have hmod : (ents 0 M).modify i (fun e => { e with key := k, val := v' }) = ents 0 M := by
      apply List.ext_getElem?
      intro j
      rw [List.getElem?_modify]
      split
      · rename_i hj
        subst hj
        rw [hen]; rfl
      · cases (ents 0 M)[j]? <;> rfl
    unfold mapUpdateV
    simp only [hu, keyFree hk, if_true, hr, checkV_eq hd hf hk, findV_eq hd hf hk 0 hM huk, hfm, hen, keeps hk, hmod]
end
end
end Go.AM

/-
  AM, part 36: operations on maps, one by one.
-/
namespace Go.AM
section
variable {P : Program} {call : Call'} {e : Tr Value} {o : Oper} {T kt el : TypeId} {m x y : Operand} {r ck nx wr d : Nat} {k v z : Value} {t : Tr AObj} {M : List (Value × Value)} {ks : List Lk} {u : TypeDesc} {ok : Bool}
theorem y_makeMap (ho : o.op = .makeMap T none) : doOp P call e ⟨t, nx, wr⟩ o = some (.map (some nx), ⟨t.set nx (.map [] 0), nx + 1, wr⟩) := by
  rw [do_op (by rw [ho]; simp), ho]; rfl
theorem y_lookYes (ho : o.op = .lookup T m x ok) (hm : ev e m = some (.map (some r))) (hx : ev e x = some k) (hu : P.underlying T = some (.map kt el)) (huk : P.underlying kt = some u) (hd : d ≤ 10000) (hf : flatTy P d kt = some ks) (hk : KeyOk P kt ks k) (hM : ∀ p ∈ M, KeyOk P kt ks p.1)
    (hz : (P.info? el).bind (·.zero) = some z) (hzf : free1 z = true) (hr : t.get r = some (.map (ents 0 M) ck)) (hl : lookM k M = some v) :
    doOp P call e ⟨t, nx, wr⟩ o = some (if ok then .tuple ⟨[v, .bool true]⟩ else v, ⟨t, nx, wr⟩) := by
  rw [do_op (by rw [ho]; simp), ho]
  simp only [aop, hm, hx, lookupV_eq (h := ⟨t, nx, wr⟩) hu huk hd hf hk hM hz hzf hr ok, hl, Option.map_some]
theorem y_lookNo (ho : o.op = .lookup T m x ok) (hm : ev e m = some (.map (some r))) (hx : ev e x = some k) (hu : P.underlying T = some (.map kt el)) (huk : P.underlying kt = some u) (hd : d ≤ 10000) (hf : flatTy P d kt = some ks) (hk : KeyOk P kt ks k) (hM : ∀ p ∈ M, KeyOk P kt ks p.1)
    (hz : (P.info? el).bind (·.zero) = some z) (hzf : free1 z = true) (hr : t.get r = some (.map (ents 0 M) ck)) (hl : lookM k M = none) :
    doOp P call e ⟨t, nx, wr⟩ o = some (if ok then .tuple ⟨[z, .bool false]⟩ else z, ⟨t, nx, wr⟩) := by
  rw [do_op (by rw [ho]; simp), ho]
  simp only [aop, hm, hx, lookupV_eq (h := ⟨t, nx, wr⟩) hu huk hd hf hk hM hz hzf hr ok, hl, Option.map_some]
theorem y_mapNew (ho : o.op = .mapUpdate T m x y) (hm : ev e m = some (.map (some r))) (hx : ev e x = some k) (hy : ev e y = some v) (hu : P.underlying T = some (.map kt el)) (huk : P.underlying kt = some u) (hd : d ≤ 10000) (hf : flatTy P d kt = some ks) (hk : KeyOk P kt ks k) (hM : ∀ p ∈ M, KeyOk P kt ks p.1)
    (hr : t.get r = some (.map (ents 0 M) M.length)) (hl : lookM k M = none) :
    doOp P call e ⟨t, nx, wr⟩ o = some (undef, ⟨t.set r (.map (ents 0 (M ++ [(k, v)])) (M ++ [(k, v)]).length), nx, min wr r⟩) := by
  rw [do_op (by rw [ho]; simp), ho]
  simp only [aop, hm, hx, hy, mapNew_eq (h := ⟨t, nx, wr⟩) hu huk hd hf hk hM hr hl, Option.map_some]
theorem y_mapSame (ho : o.op = .mapUpdate T m x y) (hm : ev e m = some (.map (some r))) (hx : ev e x = some k) (hy : ev e y = some v) (hu : P.underlying T = some (.map kt el)) (huk : P.underlying kt = some u) (hd : d ≤ 10000) (hf : flatTy P d kt = some ks) (hk : KeyOk P kt ks k) (hM : ∀ p ∈ M, KeyOk P kt ks p.1)
    (hr : t.get r = some (.map (ents 0 M) ck)) (hl : lookM k M = some v) :
    doOp P call e ⟨t, nx, wr⟩ o = some (undef, ⟨t.set r (.map (ents 0 M) ck), nx, min wr r⟩) := by
  rw [do_op (by rw [ho]; simp), ho]
  simp only [aop, hm, hx, hy, mapSame_eq (h := ⟨t, nx, wr⟩) hu huk hd hf hk hM hr hl, Option.map_some]
theorem gcM_free {pos : Nat → Option Nat} : ∀ {M : List (Value × Value)} {j : Nat}, (∀ p ∈ M, free1 p.2 = true) → gcM pos (ents j M) = some (ents j M)
  | [], _, _ => rfl
  | (k, v) :: M, j, h => by
    have h1 := h (k, v) (List.mem_cons_self ..)
    have ih := gcM_free (pos := pos) (M := M) (j := j + 1) fun p hp => h p (List.mem_cons_of_mem _ hp)
    unfold gcM at ih ⊢
    simp only [ents, List.mapM_cons, gcV_free h1, Option.map_some, ih]
    rfl
theorem keyA {P : Program} {t : TypeId} {ks : List Lk} {c : List Value} (hg : aggOf P t = some true) (hc : cf ks c = true) : KeyOk P t ks (.agg ⟨c⟩) := by
  refine ⟨?_, hc⟩
  unfold packV; rw [hg]; rfl
theorem keyI {P : Program} {t : TypeId} {κ : IntKind} {n : Int} (hg : aggOf P t = some false) : KeyOk P t [.int κ] (.int κ n) := by
  refine ⟨?_, by show ((Lk.int κ).ok (.int κ n) && true) = true; simp [Lk.ok]⟩
  unfold packV; rw [hg]; rfl
theorem findM_append {k : Value} {q : Value × Value} : ∀ {M : List (Value × Value)} {i : Nat}, findM k (M ++ [q]) i = match findM k M i with | some r => some r | none => if eqCs (kc k) (kc q.1) then some (i + M.length, q.2) else none
  | [], i => by simp [findM]
  | (k', v) :: M, i => by
    simp only [List.cons_append, findM]
    split
    · rfl
    · rw [findM_append (M := M), List.length_cons, show i + 1 + M.length = i + (M.length + 1) by omega]
theorem lookM_append {k : Value} {q : Value × Value} {M : List (Value × Value)} : lookM k (M ++ [q]) = match lookM k M with | some r => some r | none => if eqCs (kc k) (kc q.1) then some q.2 else none := by
  unfold lookM
  rw [findM_append]
  cases findM k M 0 with
  | none => simp only [Option.map_none]; split <;> rfl
  | some p => rfl
end
theorem min_2 {P : Program} {a b : Int} {tys : Array TypeId} {ty : TypeId} : keep (quick P (Builtin.min_ tys ty ⟨[.int .i64 a, .int .i64 b]⟩)) = some (.int .i64 (min a b)) := by
  have e : keep (quick P (Builtin.min_ tys ty ⟨[.int .i64 a, .int .i64 b]⟩)) = some (.int .i64 (if b < a then b else a)) := by
    by_cases hlt : b < a <;> simp [Builtin.min_, Builtin.min2, keep, hlt] <;> rfl
  rw [e]
  have : (if b < a then b else a) = min a b := by split <;> omega
  rw [this]
theorem max_2 {P : Program} {a b : Int} {tys : Array TypeId} {ty : TypeId} : keep (quick P (Builtin.max_ tys ty ⟨[.int .i64 a, .int .i64 b]⟩)) = some (.int .i64 (max a b)) := by
  have e : keep (quick P (Builtin.max_ tys ty ⟨[.int .i64 a, .int .i64 b]⟩)) = some (.int .i64 (if b > a then b else a)) := by
    by_cases hlt : b > a <;> simp [Builtin.max_, Builtin.max2, keep, hlt] <;> rfl
  rw [e]
  have : (if b > a then b else a) = max a b := by split <;> omega
  rw [this]
theorem x_min {P : Program} {call : Call'} {e : Tr Value} {h : AH} {o : Oper} {c : Call} {a b r : Int} (ho : o.op = .call c) (hc : c.callee = .builtin .min) (ha : evs e c.args.toList = some [.int .i64 a, .int .i64 b]) (hr : min a b = r) : doOp P call e h o = some (.int .i64 r, h) := by
  subst hr
  unfold doOp
  rw [ho]
  simp only [doCall, ha, hc, abuiltin, min_2, free1, free0, List.all_cons, List.all_nil, Bool.and_self, if_true, Option.map_some]
theorem x_max {P : Program} {call : Call'} {e : Tr Value} {h : AH} {o : Oper} {c : Call} {a b r : Int} (ho : o.op = .call c) (hc : c.callee = .builtin .max) (ha : evs e c.args.toList = some [.int .i64 a, .int .i64 b]) (hr : max a b = r) : doOp P call e h o = some (.int .i64 r, h) := by
  subst hr
  unfold doOp
  rw [ho]
  simp only [doCall, ha, hc, abuiltin, max_2, free1, free0, List.all_cons, List.all_nil, Bool.and_self, if_true, Option.map_some]
theorem jout0 {H : AH} {n m : Nat} {d1 d2 : List Value} {E : Int} {b c : Nat} (h : n = 0) (h' : n = m) : some (Value.tuple ⟨[.agg ⟨[outV b 1 n, outV c 1 m]⟩, .int .i64 E]⟩, addRows H (outN n d1 ++ outN m d2)) = some (.tuple ⟨[.agg ⟨[.slice none 0 0, .slice none 0 0]⟩, .int .i64 E]⟩, H) := by
  subst h'; subst h; rfl
theorem jout1 {n m : Nat} {d1 d2 : List Value} {E : Int} {t : Tr AObj} {nx wr : Nat} (h : 0 < n) (h' : n = m) : some (Value.tuple ⟨[.agg ⟨[outV nx 1 n, outV (nx + 1) 1 m]⟩, .int .i64 E]⟩, addRows ⟨t, nx, wr⟩ (outN n d1 ++ outN m d2)) =
    some (.tuple ⟨[.agg ⟨[.slice (some ⟨nx, 0, none⟩) n (n + 1), .slice (some ⟨nx + 1, 0, none⟩) m (m + 1)]⟩, .int .i64 E]⟩, ⟨(t.set nx (.row d1 nx BIG false d1.length)).set (nx + 1) (.row d2 (nx + 1) BIG false d2.length), nx + 1 + 1, wr⟩) := by
  subst h'
  rw [outV_ne (by omega), outV_ne (by omega), outN_ne (by omega), outN_ne (by omega)]; rfl
end Go.AM

/-! Slices built out of several values. -/
namespace Go.AM
open Go
theorem y_bsliceN {P : Program} {call : Call'} {e : Tr Value} {o : Oper} {T el : TypeId} {nx wr sz len : Nat} {z : Value} {cs : List Value} {t : Tr AObj} {ps0 : Array (Nat × Operand)} {ps : List (Nat × Value)}
    (ho : o.op = .buildSlice T len ps0) (hp : evP e ps0.toList = some ps) (hu : P.underlying T = some (.slice el)) (hs : szOf P el = some sz) (hz : (P.info? el).bind (·.zero) = some z) (h0 : 0 < sz) (hb : len * sz ≤ 16777216)
    (hzs : z.cells.size = sz) (hzf : free1 z = true) (hfill : Instr.fill (fun i => some (i * sz, sz)) ⟨zerosC z.cells.toList len⟩ ps = some ⟨cs⟩) :
    doOp P call e ⟨t, nx, wr⟩ o = some (.slice (some ⟨nx, 0, none⟩) len len, ⟨t.set nx (.row cs nx BIG false cs.length), nx + 1, wr⟩) := by
  rw [do_op (by rw [ho]; simp), ho]
  simp only [aop, hp, hu, hs, hz]
  rw [if_pos ⟨hb, hzs, h0, hzf⟩]
  simp only [hfill, newRow]
theorem wA_undef {ops : Array Oper} {e : Tr Value} {o : Oper} {j t : Nat} {w : Bool} (hg : o.guard = some (j, w)) (hd : (ops[j]?).bind (·.dst) = some t) (he : e.get t = some undef) : wantedA ops e o = some false := by
  unfold wantedA
  rw [hg]
  simp only [hd, he]
  rfl
end Go.AM

/-! Runs in the kernel: the draws are checked once for the program; a table answers first. -/
namespace Go.AM
open Go

def runDrawQ (P : Program) (call : Call') (ops : Array Oper) (st : St) : Option St :=
  match drawGo P call ops ops.toList st with
  | some (s, infs) => if (infs.all (·.quiet) || tailOk (Region.before ops) (least infs) infs) && decide (s.h.next ≤ BIG) && decide (st.h.wr ≤ BIG) then some s else none
  | none => none

def execQ (P : Program) (call : Call') (rd : Bool) : Nat → Code → St → Option (Ex × St)
  | 0, _, _ => none
  | n + 1, c, st =>
    match c with
    | .skip => some (.normal, st)
    | .label _ => some (.normal, st)
    | .region _ ops d => (if d then runDrawQ P call ops st else runOps P call ops ops.toList st).map fun s => (.normal, s)
    | .seq a b =>
      match execQ P call rd n a st with
      | some (.normal, s) => execQ P call rd n b s
      | r => r
    | .cond c x y =>
      match ev st.e c with
      | some (.bool q) => execQ P call rd n (if q then x else y) st
      | _ => none
    | .block id b =>
      match execQ P call rd n b st with
      | some (.exit i, s) => if i = id then some (.normal, s) else some (.exit i, s)
      | r => r
    | .loop b =>
      match execQ P call rd n b st with
      | some (.normal, s) => execQ P call rd n (.loop b) s
      | r => r
    | .exit id => some (.exit id, st)
    | .ret => some (.ret, st)
    | .rangeFunc g ps assign body => exec P call rd (n + 1) (.rangeFunc g ps assign body) st
    | _ => none

def codeOk : Code → Bool
  | .region _ ops d => !d || drawOk ops
  | .seq a b => codeOk a && codeOk b
  | .cond _ x y => codeOk x && codeOk y
  | .block _ b => codeOk b
  | .loop b => codeOk b
  | .scope b => codeOk b
  | _ => true

def progOk (P : Program) (fs : List FuncId) : Bool := fs.all fun f => match P.funcs[f]? with | some fn => (match fn.body with | some c => codeOk c | none => true) | none => true

theorem tailOk_quiet {b : Array Nat} {w : Nat} {infs : List Inf} (h : infs.all (·.quiet) = true) : tailOk b w infs = true := by
  unfold tailOk tailOk1
  rw [Bool.or_eq_true]
  left
  rw [List.all_eq_true]
  intro j _
  have : (infs.take (j + 1)).all (·.quiet) = true := List.all_eq_true.2 fun x hx => List.all_eq_true.1 h x (List.mem_of_mem_take hx)
  rw [this]
  rfl

section
variable {P : Program} {call : Call'}
theorem runDrawQ_eq {ops : Array Oper} {st s : St} (hd : drawOk ops = true) (h : runDrawQ P call ops st = some s) : runDraw P call ops st = some s := by
  unfold runDrawQ at h
  unfold runDraw
  rw [if_pos hd]
  split at h
  case h_2 => cases h
  rename_i s' infs hg
  rw [hg]
  simp only
  have e : ((infs.all (·.quiet) || tailOk (Region.before ops) (least infs) infs) && decide (s'.h.next ≤ BIG) && decide (st.h.wr ≤ BIG)) = true → (tailOk (Region.before ops) (least infs) infs && decide (s'.h.next ≤ BIG) && decide (st.h.wr ≤ BIG)) = true := by
    intro q
    rw [Bool.and_eq_true, Bool.and_eq_true, Bool.or_eq_true] at q
    rw [Bool.and_eq_true, Bool.and_eq_true]
    refine ⟨⟨?_, q.1.2⟩, q.2⟩
    rcases q.1.1 with q1 | q1
    · exact tailOk_quiet q1
    · exact q1
  split at h
  · rename_i hc; rw [if_pos (e hc)]; exact h
  · cases h

theorem execQ_eq {rd : Bool} : ∀ (n : Nat) {c : Code} {st : St} {r : Ex × St}, codeOk c = true → execQ P call rd n c st = some r → exec P call rd n c st = some r
  | 0, c, st, r, _, h => by cases h
  | n + 1, c, st, r, hk, h => by
    cases c with
    | skip => exact h
    | label l => exact h
    | region id ops d =>
      simp only [execQ] at h
      simp only [exec]
      cases d with
      | false => exact h
      | true =>
        simp only [if_true] at h ⊢
        cases hq : runDrawQ P call ops st with
        | none => rw [hq] at h; cases h
        | some s =>
          rw [hq] at h
          simp only [codeOk, Bool.not_true, Bool.false_or] at hk
          rw [runDrawQ_eq hk hq]
          exact h
    | seq a b =>
      simp only [codeOk, Bool.and_eq_true] at hk
      simp only [execQ] at h
      simp only [exec]
      cases ha : execQ P call rd n a st with
      | none => rw [ha] at h; cases h
      | some q =>
        rw [ha] at h
        rw [execQ_eq n hk.1 ha]
        obtain ⟨ex, s⟩ := q
        cases ex with
        | normal => exact execQ_eq n hk.2 h
        | exit i => exact h
        | ret => exact h
    | cond c x y =>
      simp only [codeOk, Bool.and_eq_true] at hk
      simp only [execQ] at h
      simp only [exec]
      split at h
      · rename_i q hq
        rw [hq]
        simp only
        refine execQ_eq n ?_ h
        cases q
        · exact hk.2
        · exact hk.1
      · cases h
    | block id b =>
      simp only [codeOk] at hk
      simp only [execQ] at h
      simp only [exec]
      cases ha : execQ P call rd n b st with
      | none => rw [ha] at h; cases h
      | some q =>
        rw [ha] at h
        rw [execQ_eq n hk ha]
        exact h
    | loop b =>
      simp only [execQ] at h
      simp only [exec]
      cases ha : execQ P call rd n b st with
      | none => rw [ha] at h; cases h
      | some q =>
        rw [ha] at h
        rw [execQ_eq n (by simpa only [codeOk] using hk) ha]
        obtain ⟨ex, s⟩ := q
        cases ex with
        | normal => exact execQ_eq n hk h
        | exit i => exact h
        | ret => exact h
    | exit id => exact h
    | ret => exact h
    | rangeFunc g ps a b => exact h
    | scope b => cases h
    | goto l => cases h
    | refuse w => cases h

theorem progOk_code {fs : List FuncId} (h : progOk P fs = true) {f : FuncId} {fn : Func} {c : Code} (hm : fs.contains f = true) (hf : P.funcs[f]? = some fn) (hb : fn.body = some c) : codeOk c = true := by
  have := List.all_eq_true.1 h f (List.contains_iff_mem.1 hm)
  simp only [hf, hb] at this
  exact this
end

/-- the table answers first -/
def callT (P : Program) (fs : List FuncId) (tab : Call') : Nat → Call'
  | 0 => tab
  | n + 1 => fun f args h =>
    match tab f args h with
    | some r => some r
    | none =>
      match f with
      | .func f =>
        if fs.contains f then
        match P.funcs[f]? with
        | some fn =>
          match fn.body with
          | some c =>
            match execQ P (callT P fs tab n) false n c ⟨Tr.ofList args 0 .leaf, max args.length fn.ntmps, h⟩ with
            | some (.normal, st) => (resA P st fn.results.toList).map fun vs => (one vs, st.h)
            | some (.ret, st) => (resA P st fn.results.toList).map fun vs => (one vs, st.h)
            | _ => none
          | none => none
        | none => none
        else none
      | .yield l =>
        match h.t.get l with
        | some (.loop r) =>
          match setPs r.sz r.params.toList args r.e with
          | some e0 =>
            match exec P (callT P fs tab n) true n r.assign ⟨e0, r.sz, h⟩ with
            | some (.normal, s1) =>
              match s1.h.t.get l with
              | some (.loop r1) =>
                match r1.state with
                | .ready =>
                  match exec P (callT P fs tab n) true n r.body ⟨s1.e, s1.sz, busyA s1.h l r1⟩ with
                  | some (ex, s2) =>
                    match s2.h.t.get l with
                    | some (.loop r2) => some (.bool ex.jump.isNone, roundA s2.h l r2 ex.jump)
                    | _ => none
                  | none => none
                | _ => none
              | _ => none
            | _ => none
          | none => none
        | _ => none
      | _ => none

theorem callT_sound {P : Program} (hP : Fit P) {fs : List FuncId} (hk : progOk P fs = true) {tab : Call'} (ht : CallSound P tab) : ∀ n, CallSound P (callT P fs tab n)
  | 0 => ht
  | n + 1 => by
    have ih := callT_sound hP hk ht n
    refine ⟨fun f args h r hc => ?_, fun f args h v h' hc => ?_⟩
    · simp only [callT] at hc
      split at hc
      · rename_i r' hr'
        exact ht.has _ _ _ _ hr'
      · split at hc
        case isFalse => cases hc
        split at hc
        · rename_i fn hfn
          split at hc
          · rename_i c hb
            exact ⟨fn, hfn, by rw [hb]; rfl⟩
          · cases hc
        · cases hc
    · simp only [callT] at hc
      split at hc
      · rename_i r' hr'
        cases hc
        exact ht.meets _ _ _ _ _ hr'
      split at hc
      · rename_i f
        split at hc
        case isFalse => cases hc
        rename_i hmem
        split at hc
        case h_2 => cases hc
        rename_i fn hfn
        split at hc
        case h_2 => cases hc
        rename_i c hb
        split at hc
        · rename_i st hx
          obtain ⟨vs, h1, h2⟩ := map_inv' hc
          cases h2
          exact func_meets hP.named hP.mix ih hfn hb (execQ_eq n (progOk_code hk hmem hfn hb) hx) (.inl rfl) h1
        · rename_i st hx
          obtain ⟨vs, h1, h2⟩ := map_inv' hc
          cases h2
          exact func_meets hP.named hP.mix ih hfn hb (execQ_eq n (progOk_code hk hmem hfn hb) hx) (.inr rfl) h1
        · cases hc
      · rename_i l
        split at hc
        case h_2 => cases hc
        rename_i r hl
        split at hc
        case h_2 => cases hc
        rename_i e0 hp
        split at hc
        case h_2 => cases hc
        rename_i s1 hx1
        split at hc
        case h_2 => cases hc
        rename_i r1 hl1
        split at hc
        case h_2 => cases hc
        rename_i hst
        split at hc
        case h_2 => cases hc
        rename_i ex s2 hx2
        split at hc
        case h_2 => cases hc
        rename_i r2 hl2
        cases hc
        exact round_meets hP.named hP.mix ih hl hp hx1 hl1 hst hx2 hl2
      · cases hc

theorem k_exec {P : Program} {call : Call'} {h0 : AH} {n : Nat} {c : Code} {st s : St} {ex : Ex} {Q : Ex → St → Prop} (hP : Fit P) (hcall : CallSound P call) (he : exec P call false n c st = some (ex, s)) (hq : Q ex s) : TriK P h0 c [] st Q := tri_exec hP hcall he hq

def ids0 : Value → List Nat
  | .slice (some ⟨id, _, none⟩) _ _ => [id]
  | _ => []
def ids1 : Value → List Nat
  | .agg a => a.toList.flatMap ids0
  | v => ids0 v
def ids2 : Value → List Nat
  | .tuple a => a.toList.flatMap ids1
  | v => ids1 v
def Ex.isEnd : Ex → Bool
  | .exit _ => false
  | _ => true

/-- a function's run on rows of its own: the answer, and the rows behind it -/
def runR (P : Program) (call : Call') (n : Nat) (f : FuncId) (args : List Value) (rows : List (List Value)) : Option (Value × List AObj) :=
  match P.funcs[f]? with
  | some fn =>
    match fn.body with
    | some c =>
      match execQ P call false n c ⟨Tr.ofList args 0 .leaf, max args.length fn.ntmps, cheap rows⟩ with
      | some (ex, s) =>
        match resA P s fn.results.toList with
        | some vs =>
          if ex.isEnd && gcOk rows.length s.h (List.range rows.length ++ ids2 (one vs)) && Nat.ble rows.length s.h.wr then
            match gcV (posOf (List.range rows.length ++ ids2 (one vs))) 9 (one vs), gcH rows.length (posOf (List.range rows.length ++ ids2 (one vs))) s.h 0 (List.range rows.length ++ ids2 (one vs)) with
            | some v, some os => some (v, os)
            | _, _ => none
          else none
        | none => none
      | none => none
    | none => none
  | none => none

theorem runR_meets {P : Program} (hP : Fit P) {f : FuncId} (hk : progOk P [f] = true) {call : Call'} (hcall : CallSound P call) {n : Nat} {args : List Value} {rows new : List (List Value)} {v : Value}
    (h : runR P call n f args rows = some (v, roRows 0 rows ++ newRows rows.length new)) : Meets P (.func f) args (cheap rows) v (rheap rows new) := by
  unfold runR at h
  split at h
  case h_2 => cases h
  rename_i fn hfn
  split at h
  case h_2 => cases h
  rename_i c hb
  split at h
  case h_2 => cases h
  rename_i ex s hx
  split at h
  case h_2 => cases h
  rename_i vs hvs
  split at h
  case isFalse => cases h
  rename_i hc
  simp only [Bool.and_eq_true] at hc
  obtain ⟨⟨hex, hok⟩, hwr⟩ := hc
  split at h
  case h_2 => cases h
  rename_i v' os hv hos
  cases h
  refine meets_of_triK hP hfn hb (k_exec hP hcall (execQ_eq n (progOk_code hk (by simp) hfn hb) hx) (.inr ⟨_, roRows 0 rows ++ newRows rows.length new, rows.length, vs, ?_, ?_, hvs, hv, ?_, hwr, rfl⟩))
  · cases ex with
    | normal => exact .inl rfl
    | ret => exact .inr rfl
    | exit i => cases hex
  · rw [cheap_next]; exact hok
  · rw [cheap_next]; exact hos

theorem con_run {P : Program} (hP : Fit P) {f : FuncId} (hk : progOk P [f] = true) {call : Call'} (hcall : CallSound P call) {n : Nat} {fn : Func} (hfn : P.funcs[f]? = some fn) (hb : fn.body.isSome = true) {ss : List Sh} {spec : Spec}
    (h : ∀ us cs v new, spec us cs = some (v, new) → runR P call n f us cs = some (v, roRows 0 cs ++ newRows cs.length new)) : Con P f (flatC ss spec) :=
  con_flat hfn hb fun us cs v new hs => runR_meets hP hk hcall (h us cs v new hs)
end Go.AM

/-! Slicing, clearing; functions that write nothing old; tables by relations. -/
namespace Go.AM
open Go

theorem rootOf_lt {h : AH} (hw : Wf h) {id : Nat} (hid : id < h.next) : rootOf h id < h.next := by
  unfold rootOf AH.fam
  cases hg : h.t.get id with
  | none => exact hid
  | some o =>
    cases o with
    | row d c l ro n0 => exact hid
    | alias r lo n =>
      simp only
      cases hr : h.t.get r with
      | none => exact hid
      | some o =>
        cases o with
        | row d c l ro n0 => exact hw.lt _ _ hr
        | alias r' lo n => exact hid
        | map es ck => exact hid
        | loop r' => exact hid
    | map es ck => exact hid
    | loop r => exact hid

theorem hr_same {β : Ren} {h : AH} {w w' : World} (hr : HR β h w) (hs : w.heap.size ≤ w'.heap.size) (hold : ∀ b, b < w.heap.size → w'.heap[b]? = w.heap[b]?) : HR β h w' := by
  refine ⟨fun id x hx => ?_, fun id x f hx hf => ?_, fun id x es ck hx hm => ?_, fun id x r hx hm => ?_, hr.disj⟩
  · have := hr.dom _ _ hx
    exact ⟨this.1, by omega⟩
  · exact (hr.row _ _ _ hx hf).mono (fun _ _ h => h) (hold _ (hr.dom _ _ hx).2)
  · obtain ⟨es', k1, k2⟩ := hr.map _ _ _ _ hx hm
    exact ⟨es', (hold _ (hr.dom _ _ hx).2).trans k1, k2⟩
  · obtain ⟨r', k1, k2⟩ := hr.loop _ _ _ hx hm
    exact ⟨r', (hold _ (hr.dom _ _ hx).2).trans k1, k2⟩

/-- a function that writes nothing old and answers without addresses -/
theorem meets_quietK {P : Program} (hP : Fit P) {f : FuncId} {fn : Func} {c : Code} (hfn : P.funcs[f]? = some fn) (hb : fn.body = some c) {args : List Value} {h : AH} {v : Value} (hv : free1 v = true)
    (ht : TriK P ⟨h.t, h.next, BIG⟩ c [] ⟨Tr.ofList args 0 .leaf, max args.length fn.ntmps, ⟨h.t, h.next, BIG⟩⟩ (fun ex s => (ex = .normal ∨ ex = .ret) ∧ (∃ vs, resA P s fn.results.toList = some vs ∧ one vs = v) ∧ Nat.ble h.next s.h.wr = true)) : Meets P (.func f) args h v h := by
  have _ := hP
  intro F m β w args' hF hr hw hargs
  show CallsIn F m P f ⟨args'⟩ w _
  have key : CallsIn F.plain m P f ⟨args'⟩ w (Ends' β h w v h) := by
    refine callsIn_of_wp_marks hfn hb (hF.fn f) ?_ rfl
    obtain ⟨i1, i2⟩ := init_sound hargs fn.ntmps
    have hr' : HR β ⟨h.t, h.next, BIG⟩ w := hr.wr
    have hw' : Wf ⟨h.t, h.next, BIG⟩ := hw.wr
    have hR0 : Rst w.heap.size β ⟨Tr.ofList args 0 .leaf, max args.length fn.ntmps, ⟨h.t, h.next, BIG⟩⟩ { tmps := (⟨args'⟩ : Array Value) ++ Array.replicate (fn.ntmps - (⟨args'⟩ : Array Value).size) undef, defers := [] } w :=
      ⟨hr', hw', i1, i2, .nil⟩
    refine ht F.plain m β w hF.plain rfl hr' hw' β _ w _ hR0 (.refl _ _ _) fun ex s β' a' w' hq hR hE => ?_
    obtain ⟨hex, ⟨vs, g2, g3⟩, hq⟩ := hq
    have hq := Nat.le_of_ble_eq_true hq
    have hgoal : LeavesInM F.plain m P fn a'.tmps (Ends' β h w v h) a'.defers .returning w' := by
      obtain ⟨bs, b1, b2, b3⟩ := hR.hd.ex
      rw [b1]
      refine leaves_sound bs w' b2 b3 hR.hr hE fun w'' hr'' hE'' => ?_
      obtain ⟨v', k1, k2⟩ := results_sound hr'' hR.hw hR.he g2
      rw [g3] at k2
      have hv' : v' = v := k2.free1_eq hv
      have hold : ∀ b, b < w.heap.size → w''.heap[b]? = w.heap[b]? := by
        intro b hb
        rcases hE''.frame b hb with h1 | ⟨id, x, q1, q2, q3, q4⟩
        · exact h1
        · exfalso
          have : rootOf (⟨h.t, h.next, BIG⟩ : AH) id < h.next := rootOf_lt hw' (hr'.dom _ _ q1).1
          omega
      refine ⟨v', k1, v, β, by rw [hv'], .of_free1 hv, hr_same hr hE''.size hold, hw, ?_⟩
      exact {
        sub := .refl _
        new := fun id x a b => by rw [a] at b; cases b
        all := fun id a b => by omega
        blk := fun id x a b => by rw [a] at b; cases b
        size := hE''.size
        os := hE''.os
        tape := hE''.tape
        output := hE''.output
        frame := fun b hb => .inl (hold b hb)
        next := Nat.le_refl _
        wr := Nat.le_refl _
        root := fun _ _ => rfl
        ro := fun _ _ => rfl
        objs := fun _ _ _ => rfl }
    rcases hex with rfl | rfl
    · exact hgoal
    · exact hgoal
  exact key

open Classical in
/-- a table's entry by a relation: the heap stays -/
noncomputable def cRel (R : List Value → AH → Value → Prop) : List Value → AH → Option (Value × AH) := fun args h => if hx : ∃ v, R args h v then some (Classical.choose hx, h) else none
theorem con_rel {P : Program} {f : FuncId} {fn : Func} {R : List Value → AH → Value → Prop} (hfn : P.funcs[f]? = some fn) (hb : fn.body.isSome = true) (hm : ∀ args h v, R args h v → Meets P (.func f) args h v h) : Con P f (cRel R) := by
  refine ⟨⟨fn, hfn, hb⟩, fun args h v h' hc => ?_⟩
  unfold cRel at hc
  split at hc
  · rename_i hx
    cases hc
    exact hm _ _ _ (Classical.choose_spec hx)
  · cases hc
theorem cRel_hit {R : List Value → AH → Value → Prop} {args : List Value} {h : AH} {v : Value} (hr : R args h v) (hu : ∀ v', R args h v' → v' = v) : cRel R args h = some (v, h) := by
  unfold cRel
  have hx : ∃ v, R args h v := ⟨v, hr⟩
  rw [dif_pos hx, hu _ (Classical.choose_spec hx)]
open Classical in
/-- an entry for one call -/
noncomputable def cAt (args0 : List Value) (h0 : AH) (v : Value) (h1 : AH) : List Value → AH → Option (Value × AH) := fun args h => if args = args0 ∧ h = h0 then some (v, h1) else none
theorem con_atH {P : Program} {f : FuncId} {fn : Func} {args0 : List Value} {h0 h1 : AH} {v : Value} (hfn : P.funcs[f]? = some fn) (hb : fn.body.isSome = true) (hm : Meets P (.func f) args0 h0 v h1) : Con P f (cAt args0 h0 v h1) := by
  refine ⟨⟨fn, hfn, hb⟩, fun args h v h' hc => ?_⟩
  unfold cAt at hc
  split at hc
  · rename_i hx
    cases hc
    rw [hx.1, hx.2]
    exact hm
  · cases hc
theorem cAt_hit {args0 : List Value} {h0 h1 : AH} {v : Value} : cAt args0 h0 v h1 args0 h0 = some (v, h1) := by
  unfold cAt
  rw [if_pos ⟨rfl, rfl⟩]

section
variable {P : Program} {call : Call'} {e : Tr Value} {o : Oper} {T el : TypeId} {x lo : Operand} {id off k low n0 nx wr sz n : Nat} {i : Int} {z : Value} {d vs news : List Value} {t : Tr AObj} {h : AH} {c : Call}
theorem storeC_row (hr : t.get id = some (.row d id low false n0)) (hn : n0 = d.length) (hl : off + vs.length ≤ d.length) (h1 : vs.all oneC = true) :
    storeC ⟨t, nx, wr⟩ id off vs = some ⟨t.set id (.row (splice d off vs) id low false (splice d off vs).length), nx, min wr id⟩ := by
  have hf : (⟨t, nx, wr⟩ : AH).fam id = _ := fam_row hr
  simp only [storeC, hf, h1, and_true, hr]
  rw [if_pos ⟨trivial, trivial, Nat.zero_le _, by omega⟩, splice_len (by omega), hn]
  rfl
theorem y_sliceLo (ho : o.op = .slice T x (some lo) none none) (hx : ev e x = some (.slice (some ⟨id, off, none⟩) n (n + sz))) (hl : ev e lo = some (.int .i64 i)) (hu : P.underlying T = some (.slice el)) (hz : szOf P el = some sz) (h0 : 0 < sz) (hi0 : 0 ≤ i) (hi1 : i ≤ n) :
    doOp P call e h o = some (.slice (some ⟨id, off + i.toNat * sz, none⟩) (n - i.toNat) (n - i.toNat + sz), h) := by
  rw [do_op (by rw [ho]; simp), ho]
  simp only [aop, hx, hl, evO, Option.map_some, sliceV, hu, hz, nat?, if_pos hi0, Option.isNone_some, Bool.false_eq_true, false_and, if_false, Option.isSome_none]
  rw [if_pos ⟨by omega, by omega, by omega, h0, fun q => q.elim, .inr trivial⟩, if_neg (by rintro (q | q); exact q; omega)]
  rfl
theorem y_sliceHi (ho : o.op = .slice T x none (some lo) none) (hx : ev e x = some (.slice (some ⟨id, off, none⟩) n (n + sz))) (hl : ev e lo = some (.int .i64 i)) (hu : P.underlying T = some (.slice el)) (hz : szOf P el = some sz) (h0 : 0 < sz) (hi0 : 0 ≤ i) (hi1 : i ≤ n) :
    doOp P call e h o = some (.slice (some ⟨id, off, none⟩) i.toNat (i.toNat + sz), h) := by
  rw [do_op (by rw [ho]; simp), ho]
  simp only [aop, hx, hl, evO, Option.map_some, sliceV, hu, hz, nat?, if_pos hi0, Option.isNone_some, Bool.false_eq_true, false_and, if_false, Option.isSome_none]
  rw [if_pos ⟨by omega, by omega, by omega, h0, fun q => q.elim, .inr trivial⟩, if_neg (by rintro (q | q); exact q; omega)]
  simp
theorem zerosC_len {z : List Value} : ∀ {n : Nat}, (zerosC z n).length = n * z.length
  | 0 => by simp [zerosC]
  | n + 1 => by rw [zerosC, List.length_append, zerosC_len, Nat.add_mul, Nat.one_mul, Nat.add_comm]
theorem zerosC_all {p : Value → Bool} {z : List Value} (h : z.all p = true) : ∀ {n : Nat}, (zerosC z n).all p = true
  | 0 => rfl
  | n + 1 => by rw [zerosC, List.all_append, h, zerosC_all h]; rfl
theorem y_clear (ho : o.op = .call c) (hc : c.callee = .builtin .clear) {cap : Nat} (ha : evs e c.args.toList = some [.slice (some ⟨id, off, none⟩) n cap]) (ht : c.argTypes[0]? = some T) (hu : P.underlying T = some (.slice el)) (hz : (P.info? el).bind (·.zero) = some z)
    (hzf : free1 z = true) (hz0 : 0 < z.cells.size) (hn : 0 < n) (hr : t.get id = some (.row d id low false n0)) (hn0 : n0 = d.length) (hl : off + (zerosC z.cells.toList n).length ≤ d.length) (h1 : z.cells.toList.all oneC = true) :
    doOp P call e ⟨t, nx, wr⟩ o = some (undef, ⟨t.set id (.row (splice d off (zerosC z.cells.toList n)) id low false (splice d off (zerosC z.cells.toList n)).length), nx, min wr id⟩) := by
  unfold doOp
  rw [ho]
  simp only [doCall, ha, hc, abuiltin, clearV, ht, hu, hz]
  rw [if_neg (by omega)]
  simp only [hzf, true_and]
  rw [if_pos hz0, storeC_row hr hn0 hl (zerosC_all h1)]
  rfl
theorem ya_app0 {by' m : Nat} (hu : P.underlying T = some (.slice el)) (hi : TyI P el sz by') (h0 : 0 < sz) (hn : news.length = m * sz) (hb : 2 * m * by' ≤ 281474976710656) (hm : m < BIG) (ho : news.all oneC = true) (hm0 : 0 < m) (hl : loadC ⟨t, nx, wr⟩ id 0 0 = some []) :
    appendV P ⟨t, nx, wr⟩ T (.slice (some ⟨id, 0, none⟩) 0 0) m news = some (.slice (some ⟨nx, 0, none⟩) m (m + sz), ⟨t.set nx (.row news nx BIG false news.length), nx + 1, wr⟩) := by
  obtain ⟨i, i1, i2, i3, i4⟩ := hi
  subst i2; subst i3
  unfold appendV
  simp only [hu, i1, Nat.zero_add, Nat.zero_mul]
  rw [if_pos ⟨h0, hn, hb, hm, ho, i4⟩, if_neg (by omega)]
  simp only [hl, if_true, List.nil_append]
  rfl
theorem ya_app00 {by' : Nat} {a : Option Addr} {cp : Nat} (hu : P.underlying T = some (.slice el)) (hi : TyI P el sz by') (h0 : 0 < sz) :
    appendV P ⟨t, nx, wr⟩ T (.slice a 0 cp) 0 [] = some (.slice a 0 cp, ⟨t, nx, wr⟩) := by
  obtain ⟨i, i1, i2, i3, i4⟩ := hi
  subst i2; subst i3
  unfold appendV
  simp only [hu, i1]
  rw [if_pos ⟨h0, by simp, by omega, by decide, rfl, i4⟩, if_pos trivial]
theorem b_eqlNilS {op : BinOp} {b : Bool} {xo yo : Operand} {a : Addr} {c' : Nat} (hu : P.underlying T = some (.slice el)) (hop : op = .eql ∧ b = false ∨ op = .neq ∧ b = true) : binV P op T xo yo (.slice (some a) n c') (.slice none 0 0) = some (.bool b) := by
  unfold binV
  rw [if_neg (by simp [free1, free0])]
  rcases hop with ⟨rfl, rfl⟩ | ⟨rfl, rfl⟩ <;> simp [nilEq, hu]
end
section
variable {P : Program} {call : Call'} {ops : Array Oper} {o : Oper} {rest : List Oper} {e : Tr Value} {n d nx wr : Nat} {h : AH} {K : St → Prop} {KD : St → List Inf → Prop} {acc : List Inf} {t : Tr AObj} {c : Call} {f : FuncId} {vs cap : List Value} {y : Operand}
theorem o_callC (hw : wantedA ops e o = some true) (hd : o.dst = some d) (ho : o.op = .call c) (hc : c.callee = .value y) (hy : ev e y = some (.func (.func f) ⟨[]⟩ ⟨cap⟩)) (ha : evs e c.args.toList = some vs) (hlt : d < n)
    (k : ∃ v h', call (.func f) (vs ++ cap) h = some (v, h') ∧ OpsK P call ops rest ⟨e.set d v, n, h'⟩ K) : OpsK P call ops (o :: rest) ⟨e, n, h⟩ K := by
  obtain ⟨v, h', k1, k2⟩ := k
  exact o_step hw hd (x_call ho hc hy ha (by simpa using k1)) hlt k2
theorem d_callC (hw : wantedA ops e o = some true) (hd : o.dst = some d) (ho : o.op = .call c) (hc : c.callee = .value y) (hy : ev e y = some (.func (.func f) ⟨[]⟩ ⟨cap⟩)) (ha : evs e c.args.toList = some vs) (hlt : d < n)
    (k : ∃ v t' nx' wr', call (.func f) (vs ++ cap) ⟨t, nx, BIG⟩ = some (v, ⟨t', nx', wr'⟩) ∧ DrawK P call ops rest ⟨e.set d v, n, ⟨t', nx', min wr wr'⟩⟩ (acc ++ [infOf e t nx o.op nx' wr']) KD) : DrawK P call ops (o :: rest) ⟨e, n, ⟨t, nx, wr⟩⟩ acc KD := by
  obtain ⟨v, t', nx', wr', k1, k2⟩ := k
  exact d_step hw hd (x_call ho hc hy ha (by simpa using k1)) hlt k2
end
/-- a slice without a row -/
def isNilS : Value → Bool
  | .slice none _ _ => true
  | _ => false
theorem canonS_nil {H : AH} {i k : Nat} {s u : Value} {c : List Value} (h : canonS H i k s = some (u, c)) : isNilS u = isNilS s := by
  unfold canonS at h
  split at h
  · cases h; rfl
  · split at h
    · split at h
      · split at h
        · cases h; rfl
        · cases h
      · cases h
    · cases h
  · cases h
/-- cells of one element are written into flat cells -/
theorem splice_flat {k : Nat} {x : List Value} : ∀ {A : List (List Value)} {B : List (List Value)} {y : List Value}, (∀ a ∈ A, a.length = k) → y.length = k → x.length = k → splice (A ++ y :: B).flatten (A.length * k) x = (A ++ x :: B).flatten := by
  intro A B y hA hy hx
  have hl : A.flatten.length = A.length * k := by
    rw [List.length_flatten, List.map_eq_replicate_iff.2 (fun a ha => hA a ha)]
    simp
  unfold splice
  rw [List.flatten_append, List.flatten_append, ← hl, List.take_left', List.flatten_cons, List.flatten_cons, ← List.append_assoc, List.append_assoc]
  · congr 1
    congr 1
    rw [List.drop_append, List.drop_eq_nil_of_le (by rw [List.length_append]; omega), List.nil_append, List.length_append, hx, hy, Nat.sub_self, List.drop_zero]
  · rfl
theorem splice_tail {d x A : List Value} {off : Nat} (hd : d = A ++ d.drop off) (hA : A.length = off) (hx : off + x.length = d.length) : splice d off x = A ++ x := by
  unfold splice
  rw [hx, List.drop_length, List.append_nil]
  congr 1
  rw [hd, ← hA, List.take_left']
  rfl
end Go.AM

/-! Short names for the steps that are printed most. -/
namespace Go.AM
open Go
section
variable {P : Program} {call : Call'} {ops : Array Oper} {o : Oper} {rest : List Oper} {e : Tr Value} {n d : Nat} {h h' : AH} {K : St → Prop} {KD : St → List Inf → Prop} {v : Value} {acc : List Inf} {t t' : Tr AObj} {nx nx' wr wr' : Nat} {x : Operand} {j s : Nat} {q w : Bool}
theorem os (hx : doOp P call e h o = some (v, h')) (k : OpsK P call ops rest ⟨e.set d v, n, h'⟩ K) (hw : wantedA ops e o = some true := by exact wA_none rfl) (hd : o.dst = some d := by rfl) (hlt : d < n := by decide) : OpsK P call ops (o :: rest) ⟨e, n, h⟩ K := o_step hw hd hx hlt k
theorem om (k : OpsK P call ops rest ⟨e.set d v, n, h⟩ K) (ho : o.op = .move x := by rfl) (hx : ev e x = some v := by rfl) (hw : wantedA ops e o = some true := by exact wA_none rfl) (hd : o.dst = some d := by rfl) (hlt : d < n := by decide) : OpsK P call ops (o :: rest) ⟨e, n, h⟩ K := o_step hw hd (x_move ho hx) hlt k
theorem oa (k : OpsK P call ops rest ⟨e.set d v, n, h⟩ K) (ho : o.op = .assign x := by rfl) (hx : ev e x = some v := by rfl) (hw : wantedA ops e o = some true := by exact wA_none rfl) (hd : o.dst = some d := by rfl) (hlt : d < n := by decide) : OpsK P call ops (o :: rest) ⟨e, n, h⟩ K := o_step hw hd (x_assign ho hx) hlt k
theorem ok (k : OpsK P call ops rest ⟨e.set d undef, n, h⟩ K) (hg : o.guard = some (j, w) := by rfl) (hs : (ops[j]?).bind (·.dst) = some s := by rfl) (he : e.get s = some (.bool q) := by rfl) (hq : (q == w) = false := by rfl) (hd : o.dst = some d := by rfl) (hlt : d < n := by decide) : OpsK P call ops (o :: rest) ⟨e, n, h⟩ K := o_skip (wA_off hg hs he hq) hd hlt k
theorem ds (hx : doOp P call e ⟨t, nx, BIG⟩ o = some (v, ⟨t', nx', wr'⟩)) (k : DrawK P call ops rest ⟨e.set d v, n, ⟨t', nx', min wr wr'⟩⟩ (acc ++ [infOf e t nx o.op nx' wr']) KD) (hw : wantedA ops e o = some true := by exact wA_none rfl) (hd : o.dst = some d := by rfl) (hlt : d < n := by decide) : DrawK P call ops (o :: rest) ⟨e, n, ⟨t, nx, wr⟩⟩ acc KD := d_step hw hd hx hlt k
theorem dm (k : DrawK P call ops rest ⟨e.set d v, n, ⟨t, nx, min wr BIG⟩⟩ (acc ++ [infOf e t nx o.op nx BIG]) KD) (ho : o.op = .move x := by rfl) (hx : ev e x = some v := by rfl) (hw : wantedA ops e o = some true := by exact wA_none rfl) (hd : o.dst = some d := by rfl) (hlt : d < n := by decide) : DrawK P call ops (o :: rest) ⟨e, n, ⟨t, nx, wr⟩⟩ acc KD := d_step hw hd (x_move ho hx) hlt k
theorem da (k : DrawK P call ops rest ⟨e.set d v, n, ⟨t, nx, min wr BIG⟩⟩ (acc ++ [infOf e t nx o.op nx BIG]) KD) (ho : o.op = .assign x := by rfl) (hx : ev e x = some v := by rfl) (hw : wantedA ops e o = some true := by exact wA_none rfl) (hd : o.dst = some d := by rfl) (hlt : d < n := by decide) : DrawK P call ops (o :: rest) ⟨e, n, ⟨t, nx, wr⟩⟩ acc KD := d_step hw hd (x_assign ho hx) hlt k
theorem dk (k : DrawK P call ops rest ⟨e.set d undef, n, h⟩ (acc ++ [⟨true, none, true, BIG⟩]) KD) (hg : o.guard = some (j, w) := by rfl) (hs : (ops[j]?).bind (·.dst) = some s := by rfl) (he : e.get s = some (.bool q) := by rfl) (hq : (q == w) = false := by rfl) (hd : o.dst = some d := by rfl) (hlt : d < n := by decide) : DrawK P call ops (o :: rest) ⟨e, n, h⟩ acc KD := d_skip (wA_off hg hs he hq) hd hlt k
end
theorem d1 {p : Prop} [Decidable p] : (decide p = true) = p := decide_eq_true_eq
theorem d2 {p : Prop} [Decidable p] : decide p = false ↔ ¬p := decide_eq_false_iff_not
theorem d3 {b : Bool} : (!b) = true ↔ b = false := by cases b <;> simp
theorem d4 {b : Bool} : (!b) = false ↔ b = true := by cases b <;> simp
theorem d5 (b : Bool) : (¬b = true) = (b = false) := Bool.not_eq_true b
theorem d6 (b : Bool) : (¬b = false) = (b = true) := Bool.not_eq_false b
theorem d7 (a b : Bool) : ((a && b) = true) = (a = true ∧ b = true) := Bool.and_eq_true a b
theorem d8 {a b : Int} : ¬a < b ↔ b ≤ a := Int.not_lt
theorem d9 {a b : Int} : ¬a ≤ b ↔ b < a := Int.not_le
theorem gOld {k : Nat} {pos : Nat → Option Nat} {h : AH} {j id r low n0 : Nat} {d : List Value} {ro : Bool} (hj : (Nat.blt j k && Nat.blt j h.wr) = true := by rfl) (hg : h.t.get id = some (.row d r low ro n0) := by rfl) : gcO k pos h j id = some (.row d r low ro n0) := gcO_old hj hg
theorem gFre {pos : Nat → Option Nat} {v : Value} {d : Nat} (hf : free1 v = true := by rfl) : gcV pos (d + 1) v = some v := gcV_free hf
end Go.AM

/-! Runs in the kernel with an oracle: what is old and not written stays; an oracle may speak for a table. -/
namespace Go.AM
open Go

def LoopSame (r r' : ALoop) : Prop := r'.e = r.e ∧ r'.sz = r.sz ∧ r'.params = r.params ∧ r'.assign = r.assign ∧ r'.body = r.body
theorem LoopSame.refl (r : ALoop) : LoopSame r r := ⟨rfl, rfl, rfl, rfl, rfl⟩
theorem LoopSame.trans {a b c : ALoop} (h : LoopSame a b) (k : LoopSame b c) : LoopSame a c := ⟨k.1.trans h.1, k.2.1.trans h.2.1, k.2.2.1.trans h.2.2.1, k.2.2.2.1.trans h.2.2.2.1, k.2.2.2.2.trans h.2.2.2.2⟩
/-- what is old and not written stays; records keep their code -/
structure Fr (h h' : AH) : Prop where
  wr : h'.wr ≤ h.wr
  next : h.next ≤ h'.next
  keep : ∀ id, id < h.next → id < h'.wr → h'.t.get id = h.t.get id
  loop : ∀ id r, id < h.next → h.t.get id = some (.loop r) → ∃ r', h'.t.get id = some (.loop r') ∧ LoopSame r r'
theorem Fr.refl (h : AH) : Fr h h := ⟨Nat.le_refl _, Nat.le_refl _, fun _ _ _ => rfl, fun _ r _ hr => ⟨r, hr, .refl r⟩⟩
theorem Fr.trans {a b c : AH} (h : Fr a b) (k : Fr b c) : Fr a c := by
  refine ⟨Nat.le_trans k.wr h.wr, Nat.le_trans h.next k.next, fun id h1 h2 => ?_, fun id r h1 hr => ?_⟩
  · rw [k.keep id (Nat.lt_of_lt_of_le h1 h.next) h2, h.keep id h1 (Nat.lt_of_lt_of_le h2 k.wr)]
  · obtain ⟨r1, q1, q2⟩ := h.loop id r h1 hr
    obtain ⟨r2, p1, p2⟩ := k.loop id r1 (Nat.lt_of_lt_of_le h1 h.next) q1
    exact ⟨r2, p1, q2.trans p2⟩

section
variable {P : Program} {h h' : AH} {v : Value} {e : Tr Value}
theorem fr_map {x : Option Value} (hx : x.map (·, h) = some (v, h')) : Fr h h' := by
  cases x with
  | none => cases hx
  | some y => cases hx; exact .refl _
theorem fr_new {o : AObj} (hw : h'.wr = h.wr := by rfl) (hn : h'.next = h.next + 1 := by rfl) (ht : h'.t = h.t.set h.next o := by rfl) : Fr h h' := by
  refine ⟨by omega, by omega, fun id h1 _ => ?_, fun id r h1 hr => ⟨r, ?_, .refl r⟩⟩
  · rw [ht, Tr.get_set, if_neg (by omega)]
  · rw [ht, Tr.get_set, if_neg (by omega)]; exact hr
theorem fr_newRow {cells : List Value} : Fr h (newRow h cells).2 := fr_new
theorem fr_row {root : Nat} {d d2 : List Value} {c c2 low low2 : Nat} {ro ro2 : Bool} {n0 n2 : Nat} (hr : h.t.get root = some (.row d c low ro n0)) (hw : h'.wr = min h.wr root) (hn : h'.next = h.next) (ht : h'.t = h.t.set root (.row d2 c2 low2 ro2 n2)) : Fr h h' := by
  refine ⟨by omega, by omega, fun id h1 h2 => ?_, fun id r h1 hl => ⟨r, ?_, .refl r⟩⟩
  · rw [ht, Tr.get_set, if_neg (by omega)]
  · rw [ht, Tr.get_set, if_neg]
    · exact hl
    · intro q; rw [← q, hl] at hr; cases hr
theorem fr_storeC {id off : Nat} {vs : List Value} (hs : storeC h id off vs = some h') : Fr h h' := by
  unfold storeC at hs
  split at hs
  · split at hs
    · split at hs
      · rename_i hr
        cases hs
        exact fr_row hr rfl rfl rfl
      · cases hs
    · cases hs
  · cases hs
theorem fr_storeV {t : TypeId} {p x : Value} (hs : storeV P h t p x = some h') : Fr h h' := by
  unfold storeV at hs
  split at hs
  · split at hs
    · exact fr_storeC hs
    · cases hs
  · cases hs
theorem fr_map2 {x : Option AH} {u : Value} (hs : x.map (u, ·) = some (v, h')) (hk : ∀ y, x = some y → Fr h y) : Fr h h' := by
  cases x with
  | none => cases hs
  | some y => cases hs; exact hk _ rfl
theorem fr_append {t : TypeId} {s : Value} {m : Nat} {news : List Value} (hs : appendV P h t s m news = some (v, h')) : Fr h h' := by
  unfold appendV at hs
  split at hs
  case h_2 => cases hs
  split at hs
  case h_2 => cases hs
  split at hs
  case isFalse => cases hs
  split at hs
  · cases hs; exact .refl _
  split at hs
  · split at hs
    · cases hs; exact fr_newRow
    · cases hs
  · split at hs
    case h_2 => cases hs
    split at hs
    · cases hs; exact fr_newRow
    split at hs
    case isFalse => cases hs
    split at hs
    case h_2 => cases hs
    split at hs
    · cases hs
    split at hs
    case h_2 => cases hs
    rename_i hr
    cases hs
    refine Fr.trans (b := ⟨h.t.set _ _, h.next, min h.wr _⟩) (fr_row hr rfl rfl rfl) (fr_new rfl rfl rfl)
  · cases hs
theorem fr_mapUpdate {t : TypeId} {m k x : Value} (hs : mapUpdateV P h t m k x = some h') : Fr h h' := by
  have one : ∀ {r : Nat} {es es' : List MapEntry} {ck ck' : Nat}, h.t.get r = some (.map es ck) → Fr h { h with t := h.t.set r (.map es' ck'), wr := min h.wr r } := by
    intro r es es' ck ck' hr
    refine ⟨Nat.min_le_left _ _, Nat.le_refl _, fun id h1 h2 => ?_, fun id r' h1 hl => ⟨r', ?_, .refl r'⟩⟩
    · have : id < min h.wr r := h2
      rw [Tr.get_set, if_neg (by omega)]
    · rw [Tr.get_set, if_neg]
      · exact hl
      · intro q; rw [← q, hl] at hr; cases hr
  unfold mapUpdateV at hs
  split at hs
  case h_2 => cases hs
  split at hs
  case isFalse => cases hs
  split at hs
  case h_2 => cases hs
  rename_i hr
  split at hs
  · split at hs
    case h_2 => cases hs
    split at hs
    case h_2 => cases hs
    split at hs
    case isFalse => cases hs
    cases hs
    exact one hr
  · cases hs
    exact one hr
  · cases hs
theorem fr_copy {tys : Array TypeId} {d x : Value} (hs : copyV P h tys d x = some (v, h')) : Fr h h' := by
  unfold copyV at hs
  split at hs
  case h_2 => cases hs
  split at hs
  case h_2 => cases hs
  split at hs
  case h_2 => cases hs
  split at hs
  case isFalse => cases hs
  split at hs
  · cases hs; exact .refl _
  split at hs
  case h_2 => cases hs
  exact fr_map2 hs fun y hy => fr_storeC hy
theorem fr_clear {tys : Array TypeId} {x : Value} (hs : clearV P h tys x = some (v, h')) : Fr h h' := by
  unfold clearV at hs
  split at hs
  case h_2 => cases hs
  split at hs
  case h_2 => cases hs
  split at hs
  · cases hs; exact .refl _
  split at hs
  case h_2 => cases hs
  split at hs
  case isFalse => cases hs
  exact fr_map2 hs fun y hy => fr_storeC hy
theorem fr_builtin {b : Builtin} {tys : Array TypeId} {ty : TypeId} {args : List Value} (hs : abuiltin P h b tys ty args = some (v, h')) : Fr h h' := by
  unfold abuiltin at hs
  split at hs
  · exact fr_map hs
  · split at hs
    · exact fr_map hs
    · cases hs
  · split at hs
    · exact fr_map hs
    · cases hs
  · split at hs
    case h_2 => cases hs
    split at hs
    · cases hs
    split at hs
    case h_2 => cases hs
    exact fr_append hs
  · exact fr_copy hs
  · exact fr_clear hs
  · cases hs
theorem fr_box {x : Option Value} (hs : x.map (fun v => newRow h v.cells.toList) = some (v, h')) : Fr h h' := by
  cases x with
  | none => cases hs
  | some y => cases hs; exact fr_newRow
theorem fr_aop {op : Op} (hs : aop P e h op = some (v, h')) : Fr h h' := by
  unfold aop at hs
  repeat' (split at hs)
  all_goals first
    | exact fr_map hs
    | exact fr_box hs
    | exact fr_map2 hs fun y hy => fr_storeV hy
    | exact fr_map2 hs fun y hy => fr_mapUpdate hy
    | (cases hs; done)
    | (cases hs; first | exact fr_newRow | exact .refl _ | exact fr_new)
end

/-- runs without ranges -/
def execU (P : Program) (call : Call') : Nat → Code → St → Option (Ex × St)
  | 0, _, _ => none
  | n + 1, c, st =>
    match c with
    | .skip => some (.normal, st)
    | .region _ ops d => (if d then runDrawQ P call ops st else runOps P call ops ops.toList st).map fun s => (.normal, s)
    | .seq a b =>
      match execU P call n a st with
      | some (.normal, s) => execU P call n b s
      | r => r
    | .cond c x y =>
      match ev st.e c with
      | some (.bool q) => execU P call n (if q then x else y) st
      | _ => none
    | .block id b =>
      match execU P call n b st with
      | some (.exit i, s) => if i = id then some (.normal, s) else some (.exit i, s)
      | r => r
    | .loop b =>
      match execU P call n b st with
      | some (.normal, s) => execU P call n (.loop b) s
      | r => r
    | .exit id => some (.exit id, st)
    | .ret => some (.ret, st)
    | _ => none

def callU (P : Program) (fs : List FuncId) (tab : Call') : Nat → Call'
  | 0 => tab
  | n + 1 => fun f args h =>
    match tab f args h with
    | some r => some r
    | none =>
      match f with
      | .func f =>
        if fs.contains f then
        match P.funcs[f]? with
        | some fn =>
          match fn.body with
          | some c =>
            match execU P (callU P fs tab n) n c ⟨Tr.ofList args 0 .leaf, max args.length fn.ntmps, h⟩ with
            | some (.normal, st) => (resA P st fn.results.toList).map fun vs => (one vs, st.h)
            | some (.ret, st) => (resA P st fn.results.toList).map fun vs => (one vs, st.h)
            | _ => none
          | none => none
        | none => none
        else none
      | _ => none

section
variable {P : Program} {c1 c2 : Call'} {K : Nat} {I : AH → Prop}
theorem fr_big {h h' : AH} (k : Fr { h with wr := BIG } h') : Fr h { h' with wr := min h.wr h'.wr } :=
  ⟨Nat.min_le_left _ _, k.next, fun id h1 h2 => k.keep id h1 (Nat.lt_of_lt_of_le h2 (Nat.min_le_right _ _)), k.loop⟩

structure Ora (P : Program) (I : AH → Prop) (K : Nat) (c1 c2 : Call') : Prop where
  fr : ∀ f args h v h', c1 f args h = some (v, h') → Fr h h'
  sim : ∀ f args h v h', I h → c1 f args h = some (v, h') → K ≤ h'.wr → c2 f args h = some (v, h')
structure Inv (I : AH → Prop) (K : Nat) : Prop where
  step : ∀ h h', I h → Fr h h' → K ≤ h'.wr → I h'
  wr : ∀ h w, I h → I { h with wr := w }

theorem doOp_fr (ho : Ora P I K c1 c2) {e : Tr Value} {h h' : AH} {o : Oper} {v : Value} (hs : doOp P c1 e h o = some (v, h')) : Fr h h' := by
  unfold doOp at hs
  split at hs
  · unfold doCall at hs
    split at hs
    case h_2 => cases hs
    split at hs
    · exact fr_builtin hs
    · split at hs
      · exact ho.fr _ _ _ _ _ hs
      · cases hs
    · cases hs
  · exact fr_aop hs
theorem doOp_sim (ho : Ora P I K c1 c2) {e : Tr Value} {h h' : AH} {o : Oper} {v : Value} (hi : I h) (hs : doOp P c1 e h o = some (v, h')) (hk : K ≤ h'.wr) : doOp P c2 e h o = some (v, h') := by
  unfold doOp at hs ⊢
  split at hs
  · rename_i c hc
    unfold doCall at hs ⊢
    split at hs
    case h_2 => cases hs
    rename_i args ha
    split at hs
    · exact hs
    · rename_i f hf
      split at hs
      · rename_i g first cap hg
        exact ho.sim _ _ _ _ _ hi hs hk
      · cases hs
    · cases hs
  · exact hs
theorem step1_both (ho : Ora P I K c1 c2) {ops : Array Oper} {o : Oper} {st st' : St} (hs : step1 P c1 ops o st = some st') : Fr st.h st'.h ∧ (I st.h → K ≤ st'.h.wr → step1 P c2 ops o st = some st') := by
  unfold step1 at hs ⊢
  split at hs
  · split at hs
    · rename_i v h' hd
      cases hp : putE st.e st.sz o.dst v with
      | none => rw [hp] at hs; cases hs
      | some e' =>
        rw [hp] at hs
        cases hs
        refine ⟨doOp_fr ho hd, fun hi hk => ?_⟩
        rw [doOp_sim ho hi hd hk]
        simp only [hp, Option.map_some]
    · cases hs
  · cases hp : putE st.e st.sz o.dst undef with
    | none => rw [hp] at hs; cases hs
    | some e' =>
      rw [hp] at hs
      cases hs
      exact ⟨.refl _, fun _ _ => by simp only [Option.map_some]⟩
  · cases hs
theorem runOps_both (ho : Ora P I K c1 c2) (hI : Inv I K) {ops : Array Oper} : ∀ {l : List Oper} {st st' : St}, runOps P c1 ops l st = some st' → Fr st.h st'.h ∧ (I st.h → K ≤ st'.h.wr → runOps P c2 ops l st = some st')
  | [], st, st', hs => by cases hs; exact ⟨.refl _, fun _ _ => rfl⟩
  | o :: l, st, st', hs => by
    simp only [runOps] at hs ⊢
    split at hs
    case h_2 => cases hs
    rename_i s1 h1
    obtain ⟨f1, k1⟩ := step1_both ho h1
    obtain ⟨f2, k2⟩ := runOps_both ho hI hs
    refine ⟨f1.trans f2, fun hi hk => ?_⟩
    have hk1 : K ≤ s1.h.wr := Nat.le_trans hk f2.wr
    rw [k1 hi hk1]
    exact k2 (hI.step _ _ hi f1 hk1) hk
theorem draw1_both (ho : Ora P I K c1 c2) (hI : Inv I K) {ops : Array Oper} {o : Oper} {st st' : St} {x : Inf} (hs : draw1 P c1 ops o st = some (st', x)) : Fr st.h st'.h ∧ (I st.h → K ≤ st'.h.wr → draw1 P c2 ops o st = some (st', x)) := by
  unfold draw1 at hs ⊢
  split at hs
  · split at hs
    · rename_i v h' hd
      cases hp : putE st.e st.sz o.dst v with
      | none => rw [hp] at hs; cases hs
      | some e' =>
        rw [hp] at hs
        cases hs
        refine ⟨fr_big (doOp_fr ho hd), fun hi hk => ?_⟩
        rw [doOp_sim ho (hI.wr _ _ hi) hd (Nat.le_trans hk (Nat.min_le_right _ _))]
        simp only [hp, Option.map_some]
    · cases hs
  · cases hp : putE st.e st.sz o.dst undef with
    | none => rw [hp] at hs; cases hs
    | some e' =>
      rw [hp] at hs
      cases hs
      exact ⟨.refl _, fun _ _ => by simp only [Option.map_some]⟩
  · cases hs
theorem drawGo_both (ho : Ora P I K c1 c2) (hI : Inv I K) {ops : Array Oper} : ∀ {l : List Oper} {st st' : St} {xs : List Inf}, drawGo P c1 ops l st = some (st', xs) → Fr st.h st'.h ∧ (I st.h → K ≤ st'.h.wr → drawGo P c2 ops l st = some (st', xs))
  | [], st, st', xs, hs => by cases hs; exact ⟨.refl _, fun _ _ => rfl⟩
  | o :: l, st, st', xs, hs => by
    simp only [drawGo] at hs ⊢
    split at hs
    case h_2 => cases hs
    rename_i s1 x h1
    split at hs
    case h_2 => cases hs
    rename_i s2 l2 h2
    cases hs
    obtain ⟨f1, k1⟩ := draw1_both ho hI h1
    obtain ⟨f2, k2⟩ := drawGo_both ho hI h2
    refine ⟨f1.trans f2, fun hi hk => ?_⟩
    have hk1 : K ≤ s1.h.wr := Nat.le_trans hk f2.wr
    rw [k1 hi hk1]
    simp only
    rw [k2 (hI.step _ _ hi f1 hk1) hk]
theorem runDrawQ_both (ho : Ora P I K c1 c2) (hI : Inv I K) {ops : Array Oper} {st st' : St} (hs : runDrawQ P c1 ops st = some st') : Fr st.h st'.h ∧ (I st.h → K ≤ st'.h.wr → runDrawQ P c2 ops st = some st') := by
  unfold runDrawQ at hs ⊢
  split at hs
  case h_2 => cases hs
  rename_i s xs hg
  split at hs
  case isFalse => cases hs
  rename_i hc
  cases hs
  obtain ⟨f1, k1⟩ := drawGo_both ho hI hg
  refine ⟨f1, fun hi hk => ?_⟩
  rw [k1 hi hk]
  simp only
  rw [if_pos hc]
theorem execU_both (ho : Ora P I K c1 c2) (hI : Inv I K) : ∀ (n : Nat) {c : Code} {st st' : St} {ex : Ex}, execU P c1 n c st = some (ex, st') → Fr st.h st'.h ∧ (I st.h → K ≤ st'.h.wr → execU P c2 n c st = some (ex, st'))
  | 0, _, _, _, _, hs => by cases hs
  | n + 1, c, st, st', ex, hs => by
    cases c with
    | skip => cases hs; exact ⟨.refl _, fun _ _ => rfl⟩
    | exit id => cases hs; exact ⟨.refl _, fun _ _ => rfl⟩
    | ret => cases hs; exact ⟨.refl _, fun _ _ => rfl⟩
    | label l => cases hs
    | rangeFunc g ps a b => cases hs
    | scope b => cases hs
    | goto l => cases hs
    | refuse w => cases hs
    | region id ops d =>
      simp only [execU] at hs ⊢
      cases d with
      | false =>
        simp only [Bool.false_eq_true, if_false] at hs ⊢
        cases hr : runOps P c1 ops ops.toList st with
        | none => rw [hr] at hs; cases hs
        | some s =>
          rw [hr] at hs; cases hs
          obtain ⟨f, k⟩ := runOps_both ho hI hr
          exact ⟨f, fun hi hk => by rw [k hi hk]; rfl⟩
      | true =>
        simp only [if_true] at hs ⊢
        cases hr : runDrawQ P c1 ops st with
        | none => rw [hr] at hs; cases hs
        | some s =>
          rw [hr] at hs; cases hs
          obtain ⟨f, k⟩ := runDrawQ_both ho hI hr
          exact ⟨f, fun hi hk => by rw [k hi hk]; rfl⟩
    | seq a b =>
      simp only [execU] at hs ⊢
      cases ha : execU P c1 n a st with
      | none => rw [ha] at hs; cases hs
      | some q =>
        obtain ⟨ex1, s1⟩ := q
        obtain ⟨f1, k1⟩ := execU_both ho hI n ha
        rw [ha] at hs
        cases ex1 with
        | normal =>
          obtain ⟨f2, k2⟩ := execU_both ho hI n hs
          refine ⟨f1.trans f2, fun hi hk => ?_⟩
          have hk1 : K ≤ s1.h.wr := Nat.le_trans hk f2.wr
          rw [k1 hi hk1]
          exact k2 (hI.step _ _ hi f1 hk1) hk
        | exit i => cases hs; exact ⟨f1, fun hi hk => by rw [k1 hi hk]⟩
        | ret => cases hs; exact ⟨f1, fun hi hk => by rw [k1 hi hk]⟩
    | cond c x y =>
      simp only [execU] at hs ⊢
      split at hs
      · rename_i q hq
        exact execU_both ho hI n hs
      · cases hs
    | block id b =>
      simp only [execU] at hs ⊢
      cases ha : execU P c1 n b st with
      | none => rw [ha] at hs; cases hs
      | some q =>
        obtain ⟨ex1, s1⟩ := q
        obtain ⟨f1, k1⟩ := execU_both ho hI n ha
        rw [ha] at hs
        have e : s1 = st' := by
          cases ex1 with
          | normal => cases hs; rfl
          | exit i => simp only at hs; split at hs <;> (cases hs; rfl)
          | ret => cases hs; rfl
        subst e
        exact ⟨f1, fun hi hk => by rw [k1 hi hk]; exact hs⟩
    | loop b =>
      simp only [execU] at hs ⊢
      cases ha : execU P c1 n b st with
      | none => rw [ha] at hs; cases hs
      | some q =>
        obtain ⟨ex1, s1⟩ := q
        obtain ⟨f1, k1⟩ := execU_both ho hI n ha
        rw [ha] at hs
        cases ex1 with
        | normal =>
          obtain ⟨f2, k2⟩ := execU_both ho hI n hs
          refine ⟨f1.trans f2, fun hi hk => ?_⟩
          have hk1 : K ≤ s1.h.wr := Nat.le_trans hk f2.wr
          rw [k1 hi hk1]
          exact k2 (hI.step _ _ hi f1 hk1) hk
        | exit i => cases hs; exact ⟨f1, fun hi hk => by rw [k1 hi hk]⟩
        | ret => cases hs; exact ⟨f1, fun hi hk => by rw [k1 hi hk]⟩

/-- the table, where the oracle speaks -/
def tabC (c1 c2 : Call') : Call' := fun f args h => match c1 f args h with
  | some _ => c2 f args h
  | none => none
theorem tabC_sound (hs : CallSound P c2) : CallSound P (tabC c1 c2) := by
  refine ⟨fun f args h r hc => ?_, fun f args h v h' hc => ?_⟩
  · unfold tabC at hc; split at hc
    · exact hs.has _ _ _ _ hc
    · cases hc
  · unfold tabC at hc; split at hc
    · exact hs.meets _ _ _ _ _ hc
    · cases hc
theorem callU_ora (ho : Ora P I K c1 c2) (hI : Inv I K) {fs : List FuncId} : ∀ n, Ora P I K (callU P fs c1 n) (callU P fs (tabC c1 c2) n)
  | 0 => ⟨ho.fr, fun f args h v h' hi hs hk => by
      show tabC c1 c2 f args h = _
      have hs : c1 f args h = some (v, h') := hs
      unfold tabC; rw [hs]; exact ho.sim _ _ _ _ _ hi hs hk⟩
  | n + 1 => by
    have ih := callU_ora ho hI (fs := fs) n
    have key : ∀ f args h v h', callU P fs c1 (n + 1) f args h = some (v, h') → Fr h h' ∧ (I h → K ≤ h'.wr → callU P fs (tabC c1 c2) (n + 1) f args h = some (v, h')) := by
      intro f args h v h' hs
      simp only [callU] at hs ⊢
      split at hs
      · rename_i r hr
        cases hs
        refine ⟨ho.fr _ _ _ _ _ hr, fun hi hk => ?_⟩
        have : tabC c1 c2 f args h = some (v, h') := by unfold tabC; rw [hr]; exact ho.sim _ _ _ _ _ hi hr hk
        rw [this]
      · rename_i hr
        have e2 : tabC c1 c2 f args h = none := by unfold tabC; rw [hr]
        rw [e2]
        simp only
        split at hs
        case h_2 => cases hs
        split at hs
        case isFalse => cases hs
        rename_i hm
        simp only [hm, if_true]
        split at hs
        case h_2 => cases hs
        rename_i fn hfn
        split at hs
        case h_2 => cases hs
        rename_i c hb
        split at hs
        · rename_i st hx
          obtain ⟨f1, k1⟩ := execU_both ih hI n hx
          obtain ⟨vs, q1, q2⟩ := map_inv' hs
          cases q2
          refine ⟨f1, fun hi hk => ?_⟩
          simp only [k1 hi hk]
          exact hs
        · rename_i st hx
          obtain ⟨f1, k1⟩ := execU_both ih hI n hx
          obtain ⟨vs, q1, q2⟩ := map_inv' hs
          cases q2
          refine ⟨f1, fun hi hk => ?_⟩
          simp only [k1 hi hk]
          exact hs
        · cases hs
    exact ⟨fun f args h v h' hs => (key f args h v h' hs).1, fun f args h v h' hi hs hk => (key f args h v h' hs).2 hi hk⟩
theorem execU_eq {call : Call'} : ∀ (n : Nat) {c : Code} {st : St} {r : Ex × St}, execU P call n c st = some r → execQ P call false n c st = some r
  | 0, _, _, _, h => by cases h
  | n + 1, c, st, r, h => by
    cases c with
    | skip => exact h
    | exit id => exact h
    | ret => exact h
    | label l => cases h
    | rangeFunc g ps a b => cases h
    | scope b => cases h
    | goto l => cases h
    | refuse w => cases h
    | region id ops d => exact h
    | seq a b =>
      simp only [execU] at h
      simp only [execQ]
      cases ha : execU P call n a st with
      | none => rw [ha] at h; cases h
      | some q =>
        rw [ha] at h
        rw [execU_eq n ha]
        obtain ⟨ex, s⟩ := q
        cases ex with
        | normal => exact execU_eq n h
        | exit i => exact h
        | ret => exact h
    | cond c x y =>
      simp only [execU] at h
      simp only [execQ]
      split at h
      · rename_i q hq
        try simp only [hq]
        exact execU_eq n h
      · cases h
    | block id b =>
      simp only [execU] at h
      simp only [execQ]
      cases ha : execU P call n b st with
      | none => rw [ha] at h; cases h
      | some q =>
        rw [ha] at h
        rw [execU_eq n ha]
        exact h
    | loop b =>
      simp only [execU] at h
      simp only [execQ]
      cases ha : execU P call n b st with
      | none => rw [ha] at h; cases h
      | some q =>
        rw [ha] at h
        rw [execU_eq n ha]
        obtain ⟨ex, s⟩ := q
        cases ex with
        | normal => exact execU_eq n h
        | exit i => exact h
        | ret => exact h
theorem callU_sound (hP : Fit P) {fs : List FuncId} (hk : progOk P fs = true) {tab : Call'} (ht : CallSound P tab) : ∀ n, CallSound P (callU P fs tab n)
  | 0 => ht
  | n + 1 => by
    have ih := callU_sound hP hk ht n
    refine ⟨fun f args h r hc => ?_, fun f args h v h' hc => ?_⟩
    · simp only [callU] at hc
      split at hc
      · rename_i r' hr'
        exact ht.has _ _ _ _ hr'
      · split at hc
        case isFalse => cases hc
        split at hc
        · rename_i fn hfn
          split at hc
          · rename_i c hb
            exact ⟨fn, hfn, by rw [hb]; rfl⟩
          · cases hc
        · cases hc
    · simp only [callU] at hc
      split at hc
      · rename_i r' hr'
        cases hc
        exact ht.meets _ _ _ _ _ hr'
      split at hc
      case h_2 => cases hc
      split at hc
      case isFalse => cases hc
      rename_i hmem
      split at hc
      case h_2 => cases hc
      rename_i fn hfn
      split at hc
      case h_2 => cases hc
      rename_i c hb
      split at hc
      · rename_i st hx
        obtain ⟨vs, h1, h2⟩ := map_inv' hc
        cases h2
        exact func_meets hP.named hP.mix ih hfn hb (execQ_eq n (progOk_code hk hmem hfn hb) (execU_eq n hx)) (.inl rfl) h1
      · rename_i st hx
        obtain ⟨vs, h1, h2⟩ := map_inv' hc
        cases h2
        exact func_meets hP.named hP.mix ih hfn hb (execQ_eq n (progOk_code hk hmem hfn hb) (execU_eq n hx)) (.inr rfl) h1
      · cases hc
/-- a run whose calls an oracle answers -/
theorem ora_meets (hP : Fit P) {fs : List FuncId} (hk : progOk P fs = true) (hs : CallSound P c2) (ho : Ora P I K c1 c2) (hI : Inv I K) {n : Nat} {f : FuncId} {args : List Value} {h h' : AH} {v : Value} (hi : I h) (hc : callU P fs c1 n (.func f) args h = some (v, h')) (hw : K ≤ h'.wr) :
    Meets P (.func f) args h v h' := (callU_sound hP hk (tabC_sound hs) n).meets _ _ _ _ _ ((callU_ora ho hI n).sim _ _ _ _ _ hi hc hw)
end
end Go.AM

/-! A loop whose states are known by what is asked of them alone. -/
namespace Go.AM
open Go
section
variable {P : Program} {h0 : AH} {b : Code} {fr : List Frm} {Q : Ex → St → Prop} {st : St}
theorem k_loopI {α : Type} (J : α → St → Prop) (μ : α → Nat) (z0 : α) (hst : J z0 st) (round : ∀ z s, J z s → TriK P h0 b (.loop (fun s' => ∃ z', J z' s' ∧ μ z' < μ z) :: fr) s Q) : TriK P h0 (.loop b) fr st Q := by
  intro F m β0 w0 hF hro hr0 hw0 β a w Q' hR hE hQ
  have key : ∀ N z s β a w, μ z < N → J z s → Rst w0.heap.size β s a w → Evo β0 h0 w0 β s.h w → Code.roundsIn F m P b Q' N a w := by
    intro N
    induction N with
    | zero => intro z s β a w hz; omega
    | succ N ih =>
      intro z s β a w hz hvz hR hE
      rw [roundsIn_succ]
      refine round z s hvz F m β0 w0 hF hro hr0 hw0 β a w _ hR hE fun ex st' β' a' w' hq hR' hE' => ?_
      cases ex with
      | normal =>
        obtain ⟨z', k1, k2⟩ := hq
        exact ih z' st' β' a' w' (by omega) k1 hR' hE'
      | exit id => exact hQ _ st' β' a' w' hq hR' hE'
      | ret => exact hQ _ st' β' a' w' hq hR' hE'
  exact wpIn_loop_rounds (μ z0 + 1) (key (μ z0 + 1) z0 st β a w (by omega) hst hR hE)
theorem b_eqlNilM {T : TypeId} {kt el : TypeId} {b : Bool} {op : BinOp} {xo yo : Operand} {m : Nat} (hu : P.underlying T = some (.map kt el)) (hop : op = .eql ∧ b = false ∨ op = .neq ∧ b = true) : binV P op T xo yo (.map (some m)) (.map none) = some (.bool b) := by
  unfold binV
  rw [if_neg (by simp [free1, free0])]
  rcases hop with ⟨rfl, rfl⟩ | ⟨rfl, rfl⟩ <;> simp [nilEq, hu]
theorem x_lenM {call : Call'} {e : Tr Value} {h : AH} {o : Oper} {c : Call} {T kt el : TypeId} {m : Nat} {es : List MapEntry} {ck : Nat} (ho : o.op = .call c) (hc : c.callee = .builtin .len) (ha : evs e c.args.toList = some [.map (some m)]) (ht : c.argTypes[0]? = some T) (hu : P.underlying T = some (.map kt el)) (hm : h.t.get m = some (.map es ck)) :
    doOp P call e h o = some (.int .i64 es.length, h) := by
  unfold doOp
  rw [ho]
  simp only [doCall, ha, hc, abuiltin, lenV, ht, hu, mapOf, hm, Option.map_some]
  rfl
end
end Go.AM
