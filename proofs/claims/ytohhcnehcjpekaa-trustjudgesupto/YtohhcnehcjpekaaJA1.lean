/-
  An abstract machine for the model, part 1: what it computes, the model does, whatever is drawn. No conditions beyond those that its theorems name.
-/
import Derived.WalkKit
import Derived.Orders
import Derived.OrdersIn
import Derived.LoopNIn
import Derived.TacticsIn
import Derived.RangeFuncCalls
import Derived.RangeFuncRecord
namespace Go.AM
inductive Tr (α : Type) where
 | leaf : Tr α
 | node (v : Option α) (l r : Tr α) : Tr α
def Tr.get {α : Type} : Tr α → Nat → Option α
 | .leaf, _ => none
 | .node v l r, i => if i = 0 then v else if i % 2 = 1 then l.get (i / 2) else r.get (i / 2 - 1)
def Tr.setF {α : Type} : Nat → Tr α → Nat → α → Tr α
 | 0, t, _, _ => t
 | f + 1, .leaf, i, x => if i = 0 then .node (some x) .leaf .leaf else if i % 2 = 1 then .node none (Tr.setF f .leaf (i / 2) x) .leaf else .node none .leaf (Tr.setF f .leaf (i / 2 - 1) x)
 | f + 1, .node v l r, i, x => if i = 0 then .node (some x) l r else if i % 2 = 1 then .node v (Tr.setF f l (i / 2) x) r else .node v l (Tr.setF f r (i / 2 - 1) x)
def Tr.set {α : Type} (t : Tr α) (i : Nat) (x : α) : Tr α := Tr.setF (i + 1) t i x
def Tr.ofList {α : Type} (l : List α) (i : Nat) (t : Tr α) : Tr α :=
 match l with
 | [] => t
 | x :: r => Tr.ofList r (i + 1) (t.set i x)
def quick {α : Type} (P : Program) : Sem α → Option α
 | .pure a => some a
 | .program k => quick P (k P)
 | .mark _ k => quick P k
 | _ => none
structure ALoop where
 state : LoopState
 pending : Option Code
 e : Tr Value
 sz : Nat
 params : Array Tmp
 assign : Code
 body : Code
inductive AObj where
 | row (data : List Value) (cur low : Nat) (ro : Bool) (n0 : Nat)
 | alias (root lo n : Nat)
 | map (es : List MapEntry) (clock : Nat)
 | loop (r : ALoop)
structure AH where
 t : Tr AObj
 next : Nat
 wr : Nat
structure Fam where
 root : Nat
 lo : Nat
 n : Nat
 data : List Value
 cur : Nat
 low : Nat
 ro : Bool
def AH.fam (h : AH) (id : Nat) : Option Fam :=
 match h.t.get id with
 | some (.row d c l ro n0) => some ⟨id, 0, n0, d, c, l, ro⟩
 | some (.alias r lo n) =>
  match h.t.get r with
  | some (.row d c l ro _) => some ⟨r, lo, n, d, c, l, ro⟩
  | _ => none
 | _ => none
def BIG : Nat := 4611686018427387904
def lowGo : Nat → Nat → Nat → Nat
 | 0, _, _ => 0
 | f + 1, c, id => if c = 0 then BIG else min (if id < c % 4294967296 / 65536 then c % 65536 else BIG) (lowGo f (c / 4294967296) id)
def lowK : Nat := 4095
def lowAt (low id : Nat) : Nat := if low ≤ BIG then low else lowGo (lowK + 1) (low - BIG) id
def addT (low s p : Nat) : Nat :=
 if 0 < s ∧ s < 65536 ∧ p < 65536 ∧ BIG ≤ low then BIG + ((low - BIG) * 4294967296 + (s * 65536 + p)) else if low ≤ BIG then min low p else 0
theorem lowGo_succ (f c id : Nat) : lowGo (f + 1) c id = if c = 0 then BIG else min (if id < c % 4294967296 / 65536 then c % 65536 else BIG) (lowGo f (c / 4294967296) id) := rfl
theorem lowGo_mono : ∀ (f c id : Nat), lowGo f c id ≤ lowGo (f + 1) c id
 | 0, c, id => Nat.zero_le _
 | f + 1, c, id => by
  rw [lowGo, lowGo]
  split
  ·exact Nat.le_refl _
  ·have := lowGo_mono f (c / 4294967296) id
   omega
theorem addT_le {low s p id : Nat} (hid : id < s) : lowAt (addT low s p) id ≤ p ∧ lowAt (addT low s p) id ≤ lowAt low id := by
 unfold addT
 split
 ·rename_i h
  obtain ⟨h1, h2, h3, h4⟩ := h
  have e1 : ((low - BIG) * 4294967296 + (s * 65536 + p)) % 4294967296 = s * 65536 + p := by omega
  have e2 : ((low - BIG) * 4294967296 + (s * 65536 + p)) / 4294967296 = low - BIG := by omega
  have e3 : ((low - BIG) * 4294967296 + (s * 65536 + p)) % 65536 = p := by omega
  have e4 : (s * 65536 + p) / 65536 = s := by rw [Nat.add_comm, Nat.add_mul_div_right _ _ (by decide), Nat.div_eq_of_lt h3, Nat.zero_add]
  have key : lowAt (BIG + ((low - BIG) * 4294967296 + (s * 65536 + p))) id = min p (lowGo lowK (low - BIG) id) := by
   unfold lowAt
   rw [if_neg (by omega), Nat.add_sub_cancel_left, lowGo_succ, if_neg (by omega), e1, e2, e3, e4, if_pos hid]
  rw [key]
  refine ⟨Nat.min_le_left _ _, ?_⟩
  have hm := lowGo_mono lowK (low - BIG) id
  unfold lowAt
  split
  ·have : low = BIG := by omega
   rw [this]
   have : p ≤ BIG := by unfold BIG; omega
   omega
  ·exact Nat.le_trans (Nat.min_le_right _ _) hm
 ·split
  ·rename_i h
   have : lowAt (min low p) id = min low p := if_pos (by omega)
   rw [this]
   unfold lowAt
   rw [if_pos h]
   omega
  ·have : lowAt 0 id = 0 := if_pos (Nat.zero_le _)
   rw [this]
   exact ⟨Nat.zero_le _, Nat.zero_le _⟩
theorem lowAt_big (id : Nat) : lowAt BIG id = BIG := if_pos (Nat.le_refl _)
def Fam.rb (f : Fam) (id : Nat) : Nat := if id = f.cur then f.n else min (lowAt f.low id) f.n
def loadC (h : AH) (id off k : Nat) : Option (List Value) :=
 match h.fam id with
 | some f => if f.lo ≤ off ∧ off + k ≤ f.rb id then some ((f.data.drop off).take k) else none
 | none => none
def oneC : Value → Bool
 | .agg _ | .tuple _ => false
 | _ => true
def splice (d : List Value) (off : Nat) (vs : List Value) : List Value := d.take off ++ vs ++ d.drop (off + vs.length)
def storeC (h : AH) (id off : Nat) (vs : List Value) : Option AH :=
 match h.fam id with
 | some f =>
  if id = f.cur ∧ f.ro = false ∧ f.lo ≤ off ∧ off + vs.length ≤ f.n ∧ vs.all oneC = true then
   match h.t.get f.root with
   | some (.row _ _ _ _ n0) =>
    some { h with t := h.t.set f.root (.row (splice f.data off vs) f.cur (if f.cur = f.root then f.low else addT f.low h.next off) false n0), wr := min h.wr f.root }
   | _ => none
  else none
 | none => none
def newRow (h : AH) (cells : List Value) : Value × AH :=
 (.pointer (some ⟨h.next, 0, none⟩), { h with t := h.t.set h.next (.row cells h.next BIG false cells.length), next := h.next + 1 })
def free0 : Value → Bool
 | .bool _ | .int _ _ | .float _ _ | .complex _ _ _ | .string _ => true
 | .pointer none | .slice none 0 0 | .map none | .chan none | .nilFunc | .nilIface => true
 | _ => false
def free1 : Value → Bool
 | .agg cs => cs.toList.all free0
 | v => free0 v
def free : Value → Bool
 | .tuple vs => vs.toList.all free1
 | v => free1 v
def keep (v : Option Value) : Option Value :=
 match v with
 | some v => if free v then some v else none
 | none => none
def ev (e : Tr Value) : Operand → Option Value
 | .tmp t => e.get t
 | .const v => if free v then some v else none
 | .global _ => none
 | .func f => some (.func (.func f) #[] #[])
def evs (e : Tr Value) : List Operand → Option (List Value)
 | [] => some []
 | x :: r =>
  match ev e x, evs e r with
  | some v, some vs => some (v :: vs)
  | _, _ => none
def evP (e : Tr Value) : List (Nat × Operand) → Option (List (Nat × Value))
 | [] => some []
 | (i, x) :: r =>
  match ev e x, evP e r with
  | some v, some vs => some ((i, v) :: vs)
  | _, _ => none
def evO (e : Tr Value) : Option Operand → Option (Option Value)
 | none => some none
 | some x => (ev e x).map some
def szOf (P : Program) (t : TypeId) : Option Nat := (P.info? t).map (·.size)
def aggOf (P : Program) (t : TypeId) : Option Bool :=
 match P.underlying t with
 | some (.struct _) | some (.array _ _) => some true
 | some _ => some false
 | none => none
def loadV (P : Program) (h : AH) (t : TypeId) (p : Value) : Option Value :=
 match p with
 | .pointer (some ⟨id, off, none⟩) =>
  match aggOf P t with
  | some true =>
   match szOf P t with
   | some sz => (loadC h id off sz).map fun cs => .agg ⟨cs⟩
   | none => none
  | some false =>
   match loadC h id off 1 with
   | some [v] => some v
   | _ => none
  | none => none
 | _ => none
def storeV (P : Program) (h : AH) (t : TypeId) (p v : Value) : Option AH :=
 match p, szOf P t with
 | .pointer (some ⟨id, off, none⟩), some sz => if v.cells.size = sz then storeC h id off v.cells.toList else none
 | _, _ => none
def fieldAddrV (P : Program) (t : TypeId) (p : Value) (i : Nat) : Option Value :=
 match p, P.underlying t with
 | .pointer (some ⟨id, off, none⟩), some (.struct fs) =>
  match fs[i]? with
  | some f =>
   match szOf P f.type with
   | some (_ + 1) => some (.pointer (some ⟨id, off + f.offset, none⟩))
   | _ => none
  | none => none
 | _, _ => none
def indexAddrV (P : Program) (t : TypeId) (x i : Value) : Option Value :=
 match i with
 | .int _ n =>
  match P.underlying t, x with
  | some (.array len el), .pointer (some ⟨id, off, none⟩) =>
   match szOf P el with
   | some sz => if 0 ≤ n ∧ n < len then some (.pointer (some ⟨id, off + n.toNat * sz, none⟩)) else none
   | none => none
  | some (.slice el), .slice (some ⟨id, off, none⟩) len _ =>
   match szOf P el with
   | some sz => if 0 ≤ n ∧ n < len then some (.pointer (some ⟨id, off + n.toNat * sz, none⟩)) else none
   | none => none
  | _, _ => none
 | _ => none
def nat? : Option Value → (d : Nat) → Option Nat
 | none, d => some d
 | some (.int _ n), _ => if 0 ≤ n then some n.toNat else none
 | _, _ => none
def sliceV (P : Program) (h : AH) (t : TypeId) (x : Value) (lo hi mx : Option Value) : Option Value :=
 match P.underlying t, x with
 | some (.slice el), .slice a len cap =>
  match szOf P el, nat? lo 0, nat? hi len, nat? mx len with
  | some sz, some l, some hh, some m =>
   if a.isNone ∧ len = 0 ∧ cap = 1 then (if l = 0 ∧ hh = 0 ∧ m = 0 ∧ (mx.isSome = true → hi.isSome = true) then some x else none)
   else if l ≤ hh ∧ hh ≤ m ∧ m ≤ len ∧ 0 < sz ∧ (mx.isSome = true → hi.isSome = true) ∧ (cap = len ∨ cap = len + sz) then
    match a with
    | none => if cap = 0 ∧ len = 0 then some (.slice none 0 0) else none
    | some ⟨id, off, none⟩ =>
     if mx.isSome = true ∨ cap = len then
      if hh = m then some (.slice (some ⟨id, if m = l then off else off + l * sz, none⟩) (hh - l) (hh - l))
      else if (loadC h id off (len * sz)).isSome = true then some (.slice (some ⟨id, off + l * sz, none⟩) (hh - l) (hh - l + sz))
      else none
     else some (.slice (some ⟨id, off + l * sz, none⟩) (hh - l) (hh - l + sz))
    | _ => none
   else none
  | _, _, _, _ => none
 | _, _ => none
def appendV (P : Program) (h : AH) (t : TypeId) (s : Value) (m : Nat) (news : List Value) : Option (Value × AH) :=
 match P.underlying t, s with
 | some (.slice el), .slice base len cap =>
  match P.info? el with
  | some i =>
   if 0 < i.size ∧ news.length = m * i.size ∧ 2 * (len + m) * i.bytes ≤ 281474976710656 ∧ len + m < BIG ∧ news.all oneC = true ∧ i.zero.map (fun z => z.cells.size) = some i.size then
    if m = 0 then some (s, h) else
    match base with
    | none => if len = 0 ∧ cap = 0 then some (.slice (some ⟨h.next, 0, none⟩) m (m + i.size), (newRow h news).2) else none
    | some ⟨id, off, none⟩ =>
     match loadC h id off (len * i.size) with
     | some old =>
      if cap = len then some (.slice (some ⟨h.next, 0, none⟩) (len + m) (len + m + i.size), (newRow h (old ++ news)).2)
      else if cap = len + i.size then
       match h.fam id with
       | some f =>
        if f.ro then none else
        match h.t.get f.root with
        | some (.row _ _ _ _ n0) =>
         let pos := off + len * i.size
         some (.slice (some ⟨h.next, off, none⟩) (len + m) (len + m + i.size),
          {t := (h.t.set f.root (.row (f.data.take pos ++ news) h.next (if pos < f.data.length then addT f.low h.next pos else f.low) false n0)).set h.next (.alias f.root off (pos + news.length)),
           next := h.next + 1, wr := min h.wr f.root })
        | _ => none
       | none => none
      else none
     | none => none
    | _ => none
   else none
  | none => none
 | _, _ => none
def cellsV (P : Program) (h : AH) (t : TypeId) (x : Value) : Option (Nat × List Value) :=
 match x with
 | .string s => some (s.size, s.data.toList.map fun b => .int .u8 b.toNat)
 | .slice none 0 0 => some (0, [])
 | .slice none 0 1 => some (0, [])
 | .slice (some ⟨id, off, none⟩) len _ =>
  match P.underlying t with
  | some (.slice el) =>
   match szOf P el with
   | some sz => (loadC h id off (len * sz)).map fun cs => (len, cs)
   | none => none
  | _ => none
 | _ => none
def isIntT (P : Program) (t : TypeId) : Bool := match P.underlying t with | some (.int _) => true | some _ => false | none => true
def zerosC (z : List Value) : Nat → List Value
 | 0 => []
 | n + 1 => z ++ zerosC z n
def findV (P : Program) (kt : TypeId) (k : Value) (es : List MapEntry) : Option (Option (Nat × Value)) :=
 quick P (Instr.findKey kt k es)
def mapOf (h : AH) (m : Value) : Option (List MapEntry) :=
 match m with
 | .map none => some []
 | .map (some r) => match h.t.get r with | some (.map es _) => some es | _ => none
 | _ => none
def lookupV (P : Program) (h : AH) (t : TypeId) (m k : Value) (ok : Bool) : Option Value :=
 match P.underlying t with
 | some (.map kt el) =>
  if free1 k then
   match mapOf h m, (P.info? el).bind (·.zero) with
   | some es, some z =>
    match quick P (Instr.checkKey es.isEmpty 10000 kt k), findV P kt k es with
    | some _, some (some (_, v)) => some (if ok then .tuple #[v, .bool true] else v)
    | some _, some none => if free1 z then some (if ok then .tuple #[z, .bool false] else z) else none
    | _, _ => none
   | _, _ => none
  else none
 | _ => none
def mapUpdateV (P : Program) (h : AH) (t : TypeId) (m k x : Value) : Option AH :=
 match P.underlying t, m with
 | some (.map kt _), .map (some r) =>
  if free1 k then
   match h.t.get r with
   | some (.map es clock) =>
    match quick P (Instr.checkKey false 10000 kt k), findV P kt k es with
    | some _, some (some (i, _)) =>
     match es[i]? with
     | some en =>
      match quick P (Instr.keyThatStays en.key k) with
      | some k' => if free1 k' then some { h with t := h.t.set r (.map (es.modify i fun e => { e with key := k', val := x }) clock), wr := min h.wr r } else none
      | none => none
     | none => none
    | some _, some none => some { h with t := h.t.set r (.map (es ++ [{ key := k, val := x, born := clock }]) (clock + 1)), wr := min h.wr r }
    | _, _ => none
   | _ => none
  else none
 | _, _ => none
def zerosV (P : Program) (t u : TypeId) (x : Value) : Option (Nat × List Value) :=
 match P.underlying u, P.underlying t, x with
 | some (.int _), some (.slice el), .int .i64 n =>
  match P.info? el with
  | some i =>
   match i.zero with
   | some z => if free1 z = true ∧ 0 ≤ n ∧ n ≤ 4611686018427387904 ∧ n * i.bytes ≤ 281474976710656 then some (n.toNat, zerosC z.cells.toList n.toNat) else none
   | none => none
  | none => none
 | _, _, _ => none
def nilEq (P : Program) (t : TypeId) (x y : Value) : Option Bool :=
 match P.underlying t, x, y with
 | some (.slice _), .slice a _ c, .slice none 0 0 => if a.isNone && c != 0 then none else some a.isNone
 | some (.slice _), .slice none 0 0, .slice a _ c => if a.isNone && c != 0 then none else some a.isNone
 | some (.map _ _), .map a, .map none => some a.isNone
 | some (.map _ _), .map none, .map a => some a.isNone
 | some (.pointer _), .pointer a, .pointer none => some a.isNone
 | some (.pointer _), .pointer none, .pointer a => some a.isNone
 | some (.func _ _ _), .func _ _ _, .nilFunc => some false
 | some (.func _ _ _), .nilFunc, .func _ _ _ => some false
 | _, _, _ => none
def binV (P : Program) (op : BinOp) (t : TypeId) (xo yo : Operand) (x y : Value) : Option Value :=
 if free1 x && free1 y then keep (quick P (do eqGuard op t xo yo x y; binOp op t x y))
 else
  match op, nilEq P t x y with
  | .eql, some b => some (.bool b)
  | .neq, some b => some (.bool !b)
  | _, _ => none
def aop (P : Program) (e : Tr Value) (h : AH) : Op → Option (Value × AH)
 | .move x | .assign x => (ev e x).map (·, h)
 | .pick c a b =>
  match ev e c with
  | some (.bool q) => (ev e (if q then a else b)).map (·, h)
  | _ => none
 | .alloc t =>
  match (P.info? t).bind (·.zero) with
  | some z => if free1 z then some (newRow h z.cells.toList) else none
  | none => none
 | .box _ x => (ev e x).map fun v => newRow h v.cells.toList
 | .build t parts =>
  match evP e parts.toList, (P.info? t).bind (·.zero) with
  | some ps, some z => if free1 z then (quick P (Instr.build t ⟨ps⟩)).map (·, h) else none
  | _, _ => none
 | .buildSlice t len parts =>
  match evP e parts.toList, P.underlying t with
  | some ps, some (.slice el) =>
   match szOf P el, (P.info? el).bind (·.zero) with
   | some sz, some z =>
    if len * sz ≤ 16777216 ∧ z.cells.size = sz ∧ 0 < sz ∧ free1 z = true then
     match Instr.fill (fun i => some (i * sz, sz)) ⟨zerosC z.cells.toList len⟩ ps with
     | some cs => some (.slice (some ⟨h.next, 0, none⟩) len len, (newRow h cs.toList).2)
     | none => none
    else none
   | _, _ => none
  | _, _ => none
 | .load t a => match ev e a with | some p => (loadV P h t p).map (·, h) | none => none
 | .store t a x => match ev e a, ev e x with | some p, some v => (storeV P h t p v).map (undef, ·) | _, _ => none
 | .nilCheck x => match ev e x with | some (.pointer (some a)) => some (.pointer (some a), h) | _ => none
 | .binOp op t x y _ => match ev e x, ev e y with | some v, some u => (binV P op t x y v u).map (·, h) | _, _ => none
 | .unOp op _ x => match ev e x with | some v => if free1 v then (keep (quick P (Op.unary op v))).map (·, h) else none | none => none
 | .convert s d x => match ev e x with | some v => if free1 v then (keep (quick P (convert s d v))).map (·, h) else none | none => none
 | .makeFunc (.func f) first cap =>
  match evs e first.toList, evs e cap.toList with
  | some a, some b => some (.func (.func f) ⟨a⟩ ⟨b⟩, h)
  | _, _ => none
 | .makeMap _ none => some (.map (some h.next), { h with t := h.t.set h.next (.map [] 0), next := h.next + 1 })
 | .makeSlice t l c =>
  match ev e l, ev e c, P.underlying t with
  | some (.int .i64 n), some (.int .i64 m), some (.slice el) =>
   match P.info? el with
   | some i =>
    match i.zero with
    | some z =>
     if 0 ≤ n ∧ n ≤ m ∧ m < BIG ∧ m * i.bytes ≤ 140737488355328 ∧ z.cells.size = i.size ∧ 0 < i.size ∧ free1 z = true then
      some (.slice (some ⟨h.next, 0, none⟩) n.toNat (if n = m then n.toNat else n.toNat + i.size), (newRow h (zerosC z.cells.toList m.toNat)).2)
     else none
    | none => none
   | none => none
  | _, _, _ => none
 | .slice t x lo hi mx =>
  match ev e x, evO e lo, evO e hi, evO e mx with
  | some (.string s), some l, some hh, some m => if l.all free1 && hh.all free1 && m.all free1 then (keep (quick P (Instr.sliceAt t (.string s) l hh m))).map (·, h) else none
  | some v, some l, some hh, some m => (sliceV P h t v l hh m).map (·, h)
  | _, _, _, _ => none
 | .fieldAddr t x i => match ev e x with | some p => (fieldAddrV P t p i).map (·, h) | none => none
 | .field t x i => match ev e x with | some v => (quick P (Instr.field t v i)).map (·, h) | none => none
 | .indexAddr t x i => match ev e x, ev e i with | some v, some n => (indexAddrV P t v n).map (·, h) | _, _ => none
 | .index t x i => match ev e x, ev e i with | some v, some n => if free1 v && free1 n then (keep (quick P (Instr.index t v n))).map (·, h) else none | _, _ => none
 | .lookup t m k ok => match ev e m, ev e k with | some v, some u => (lookupV P h t v u ok).map (·, h) | _, _ => none
 | .mapUpdate t m k x | .insert t m k x => match ev e m, ev e k, ev e x with | some v, some u, some y => (mapUpdateV P h t v u y).map (undef, ·) | _, _, _ => none
 | .extract t i => match ev e t with | some v => (quick P (Instr.extract v i)).map (·, h) | none => none
 | _ => none
def lenV (P : Program) (h : AH) (tys : Array TypeId) (ty : TypeId) (x : Value) : Option Value :=
 match tys[0]?, x with
 | some t, .map m =>
  match P.underlying t, mapOf h (.map m) with
  | some (.map _ _), some es => some (goInt es.length)
  | _, _ => none
 | some t, .slice _ n _ =>
  match P.underlying t with
  | some (.slice _) => some (goInt n)
  | _ => none
 | some _, x => if free1 x then keep (quick P (Builtin.len_ tys ty #[x])) else none
 | none, _ => none
def copyV (P : Program) (h : AH) (tys : Array TypeId) (d x : Value) : Option (Value × AH) :=
 match tys[0]?, d with
 | some t, .slice a len _ =>
  match P.underlying t, cellsV P h t x with
  | some (.slice el), some (m, cs) =>
   match szOf P el with
   | some sz =>
    if cs.length = m * sz then
     if min m len = 0 then some (goInt 0, h)
     else match a with
      | some ⟨id, off, none⟩ => (storeC h id off (cs.take (min m len * sz))).map fun h' => (goInt (min m len : Nat), h')
      | _ => none
    else none
   | none => none
  | _, _ => none
 | _, _ => none
def clearV (P : Program) (h : AH) (tys : Array TypeId) (x : Value) : Option (Value × AH) :=
 match tys[0]?, x with
 | some t, .slice a len _ =>
  match P.underlying t with
  | some (.slice el) =>
   if len = 0 then some (undef, h)
   else match (P.info? el).bind (·.zero), a with
    | some z, some ⟨id, off, none⟩ => if free1 z = true ∧ 0 < z.cells.size then (storeC h id off (zerosC z.cells.toList len)).map (undef, ·) else none
    | _, _ => none
  | _ => none
 | _, _ => none
def abuiltin (P : Program) (h : AH) (b : Builtin) (tys : Array TypeId) (ty : TypeId) (args : List Value) : Option (Value × AH) :=
 match b, args with
 | .len, [x] => (lenV P h tys ty x).map (·, h)
 | .min, xs => if xs.all free1 then (keep (quick P (Builtin.min_ tys ty ⟨xs⟩))).map (·, h) else none
 | .max, xs => if xs.all free1 then (keep (quick P (Builtin.max_ tys ty ⟨xs⟩))).map (·, h) else none
 | .append, [s, x] =>
  match tys[0]?, tys[1]? with
  | some t, some u =>
   match (if isIntT P u then zerosV P t u x else cellsV P h t x) with
   | some (m, cs) => appendV P h t s m cs
   | none => none
  | _, _ => none
 | .copy, [d, x] => copyV P h tys d x
 | .clear, [x] => clearV P h tys x
 | _, _ => none
abbrev Call' := Fn → List Value → AH → Option (Value × AH)
def doCall (P : Program) (call : Call') (e : Tr Value) (h : AH) (ty : TypeId) (c : Call) : Option (Value × AH) :=
 match evs e c.args.toList with
 | some args =>
  match c.callee with
  | .builtin b => abuiltin P h b c.argTypes ty args
  | .value f =>
   match ev e f with
   | some (.func f first cap) => call f (first.toList ++ args ++ cap.toList) h
   | _ => none
  | .invoke _ _ => none
 | none => none
def doOp (P : Program) (call : Call') (e : Tr Value) (h : AH) (o : Oper) : Option (Value × AH) :=
 match o.op with
 | .call c => doCall P call e h o.type c
 | op => aop P e h op
structure St where
 e : Tr Value
 sz : Nat
 h : AH
def wantedA (ops : Array Oper) (e : Tr Value) (o : Oper) : Option Bool :=
 match o.guard with
 | none => some true
 | some (j, want) =>
  match (ops[j]?).bind (·.dst) with
  | none => some false
  | some t =>
   match e.get t with
   | none => none
   | some (.bool b) => some (b == want)
   | some _ => some false
def putE (e : Tr Value) (sz : Nat) (d : Option Nat) (v : Value) : Option (Tr Value) :=
 match d with
 | none => some e
 | some d => if d < sz then some (e.set d v) else none
def step1 (P : Program) (call : Call') (ops : Array Oper) (o : Oper) (st : St) : Option St :=
 match wantedA ops st.e o with
 | some true =>
  match doOp P call st.e st.h o with
  | some (v, h') => (putE st.e st.sz o.dst v).map fun e' => ⟨e', st.sz, h'⟩
  | none => none
 | some false => (putE st.e st.sz o.dst undef).map fun e' => ⟨e', st.sz, st.h⟩
 | none => none
def runOps (P : Program) (call : Call') (ops : Array Oper) : List Oper → St → Option St
 | [], st => some st
 | o :: rest, st =>
  match step1 P call ops o st with
  | some st' => runOps P call ops rest st'
  | none => none
inductive Ex where
 | normal
 | exit (id : Nat)
 | ret
 deriving DecidableEq
def floats : Op → Bool
 | .move _ | .assign _ | .pick .. | .alloc _ | .box .. | .build .. | .buildSlice .. | .load .. | .nilCheck _ | .binOp .. | .unOp .. | .convert .. | .makeFunc .. | .makeMap ..
 | .makeSlice .. | .slice .. | .fieldAddr .. | .field .. | .indexAddr .. | .index .. | .lookup .. | .extract .. => true
 | _ => false
def rootOf (h : AH) (id : Nat) : Nat := match h.fam id with | some f => f.root | none => id
def readId (e : Tr Value) : Op → Option Nat
 | .load _ a => match ev e a with | some (.pointer (some a)) => some a.block | _ => none
 | .slice _ a _ _ _ => match ev e a with | some (.slice (some a) _ _) => some a.block | _ => none
 | .lookup _ m _ _ => match ev e m with | some (.map r) => r | _ => none
 | _ => none
def ordered (b : Array Nat) (i j : Nat) : Bool := (b.getD (max i j) 0).testBit (min i j)
def drawOk (ops : Array Oper) : Bool :=
 let b := Region.before ops
 (List.range ops.size).all fun j =>
  match ops[j]? with
  | none => false
  | some oj =>
   (oj.after.all fun e => !Region.binds .any e || decide (e.on < j)) &&
   (match oj.op with | .select .. => false | _ => true) &&
   (List.range ops.size).all fun i =>
    i == j ||
    match ops[i]? with
    | none => false
    | some oi => ordered b i j || (match oi.dst with | none => true | some d => !(oj.looksAt ops).contains d && oj.dst != some d)
structure Inf where
 still : Bool
 root : Option Nat
 quiet : Bool
 w : Nat
def draw1 (P : Program) (call : Call') (ops : Array Oper) (o : Oper) (st : St) : Option (St × Inf) :=
 match wantedA ops st.e o with
 | some true =>
  match doOp P call st.e { st.h with wr := BIG } o with
  | some (v, h') => (putE st.e st.sz o.dst v).map fun e' =>
   (⟨e', st.sz, { h' with wr := min st.h.wr h'.wr }⟩, ⟨floats o.op && h'.next == st.h.next && (match readId st.e o.op with | none => true | some id => decide (max id (rootOf st.h id) < st.h.next)), (readId st.e o.op).map fun id => max id (rootOf st.h id), decide (st.h.next ≤ h'.wr), h'.wr⟩)
  | none => none
 | some false => (putE st.e st.sz o.dst undef).map fun e' => (⟨e', st.sz, st.h⟩, ⟨true, none, true, BIG⟩)
 | none => none
def drawGo (P : Program) (call : Call') (ops : Array Oper) : List Oper → St → Option (St × List Inf)
 | [], st => some (st, [])
 | o :: rest, st =>
  match draw1 P call ops o st with
  | some (st', x) =>
   match drawGo P call ops rest st' with
   | some (s, l) => some (s, x :: l)
   | none => none
  | none => none
def least : List Inf → Nat
 | [] => BIG
 | x :: l => if x.quiet then least l else min x.w (least l)
def stable (w : Nat) (x : Inf) : Bool := x.still && (match x.root with | none => true | some r => decide (r < w))
def tailOk1 (b : Array Nat) (w : Nat) (infs : List Inf) : Bool :=
 (List.range infs.length).all fun j =>
  (infs.take (j + 1)).all (·.quiet) ||
  match infs[j]? with
  | none => false
  | some xj => stable w xj || (List.range j).all fun i => (match infs[i]? with | some xi => stable w xi | none => false) || ordered b i j
def stab (b : Array Nat) (infs : List Inf) (j : Nat) : Bool :=
 match infs[j]? with
 | some x => x.still && x.quiet && (match x.root with
  | none => true
  | some r => (List.range infs.length).all fun i => match infs[i]? with | some y => y.quiet || decide (r < y.w) || (i != j && ordered b i j) | none => true)
 | none => false
def tailOk2 (b : Array Nat) (infs : List Inf) : Bool :=
 (List.range infs.length).all fun j =>
  (infs.take (j + 1)).all (·.quiet) || stab b infs j || (List.range j).all fun i => stab b infs i || ordered b i j
def tailOk (b : Array Nat) (w : Nat) (infs : List Inf) : Bool := tailOk1 b w infs || tailOk2 b infs
def runDraw (P : Program) (call : Call') (ops : Array Oper) (st : St) : Option St :=
 if drawOk ops then
  match drawGo P call ops ops.toList st with
  | some (s, infs) => if tailOk (Region.before ops) (least infs) infs && decide (s.h.next ≤ BIG) && decide (st.h.wr ≤ BIG) then some s else none
  | none => none
 else none
def endLoopA (h : AH) (l : Nat) (r : ALoop) : AH := { h with t := h.t.set l (.loop { r with state := .exhausted }), wr := min h.wr l }
def exec (P : Program) (call : Call') (rd : Bool) : Nat → Code → St → Option (Ex × St)
 | 0, _, _ => none
 | n + 1, c, st =>
  match c with
  | .skip => some (.normal, st)
  | .label _ => some (.normal, st)
  | .region _ ops d => (if d then runDraw P call ops st else runOps P call ops ops.toList st).map fun s => (.normal, s)
  | .seq a b =>
   match exec P call rd n a st with
   | some (.normal, s) => exec P call rd n b s
   | r => r
  | .cond c x y =>
   match ev st.e c with
   | some (.bool q) => exec P call rd n (if q then x else y) st
   | _ => none
  | .block id b =>
   match exec P call rd n b st with
   | some (.exit i, s) => if i = id then some (.normal, s) else some (.exit i, s)
   | r => r
  | .loop b =>
   match exec P call rd n b st with
   | some (.normal, s) => exec P call rd n (.loop b) s
   | r => r
  | .exit id => some (.exit id, st)
  | .ret => some (.ret, st)
  | .rangeFunc g ps assign body =>
   if rd then none else
   match ev st.e g with
   | some (.func (.func f) first cap) =>
    match call (.func f) (first.toList ++ [.func (.yield st.h.next) #[] #[]] ++ cap.toList)
      {st.h with t := st.h.t.set st.h.next (.loop ⟨.ready, none, st.e, st.sz, ps, assign, body⟩), next := st.h.next + 1 } with
    | some (_, h2) =>
     match h2.t.get st.h.next with
     | some (.loop r) =>
      match r.state with
      | .busy => none
      | _ =>
       match r.pending with
       | none => some (.normal, ⟨st.e, st.sz, endLoopA h2 st.h.next r⟩)
       | some c => exec P call rd n c ⟨st.e, st.sz, endLoopA h2 st.h.next r⟩
     | _ => none
    | none => none
   | _ => none
  | _ => none
def resA (P : Program) (st : St) : List ResultVar → Option (List Value)
 | [] => some []
 | .tmp t :: r =>
  match st.e.get t, resA P st r with
  | some v, some vs => some (v :: vs)
  | _, _ => none
 | .cell a t :: r =>
  match st.e.get a, resA P st r with
  | some p, some vs => (loadV P st.h t p).map (· :: vs)
  | _, _ => none
def one : List Value → Value
 | [v] => v
 | vs => .tuple ⟨vs⟩
def setPs (sz : Nat) : List Tmp → List Value → Tr Value → Option (Tr Value)
 | [], [], e => some e
 | t :: ts, v :: vs, e => if t < sz then setPs sz ts vs (e.set t v) else none
 | _, _, _ => none
def Ex.jump : Ex → Option Code
 | .normal => none
 | .exit i => some (.exit i)
 | .ret => some .ret
def busyA (h : AH) (l : Nat) (r : ALoop) : AH := { h with t := h.t.set l (.loop { r with state := .busy }), wr := min h.wr l }
def roundA (h : AH) (l : Nat) (r : ALoop) (j : Option Code) : AH := { h with t := h.t.set l (.loop { r with state := if j.isNone then .ready else .done, pending := j }), wr := min h.wr l }
end Go.AM
namespace Go.AM
section trees
variable {α : Type}
theorem Tr.get_setF : ∀ (f : Nat) (t : Tr α) (i : Nat) (x : α) (j : Nat), i < f → (Tr.setF f t i x).get j = if j = i then some x else t.get j
 | 0, _, i, _, _, h => absurd h (Nat.not_lt_zero i)
 | f + 1, .leaf, i, x, j, h => by
  unfold Tr.setF
  by_cases h0 : i = 0
  ·subst h0
   simp only [if_true, Tr.get]
   by_cases hj : j = 0
   ·simp [hj]
   ·by_cases h1 : j % 2 = 1 <;> simp [hj, h1]
  ·by_cases h1 : i % 2 = 1
   ·simp only [h0, h1, if_true, if_false, Tr.get]
    have ih := Tr.get_setF f (.leaf) (i / 2) x (j / 2) (by omega)
    by_cases hj : j = 0
    ·simp [hj]; omega
    ·by_cases hj1 : j % 2 = 1
     ·simp only [hj, hj1, if_true, if_false, ih]
      by_cases he : j = i
      ·simp [he]
      ·have : j / 2 ≠ i / 2 := by omega
       simp [he, this, Tr.get]
     ·have : j ≠ i := by rintro rfl; omega
      simp [hj, hj1, this]
   ·simp only [h0, h1, if_false, Tr.get]
    have ih := Tr.get_setF f (.leaf) (i / 2 - 1) x (j / 2 - 1) (by omega)
    by_cases hj : j = 0
    ·simp [hj]; omega
    ·by_cases hj1 : j % 2 = 1
     ·have : j ≠ i := by rintro rfl; omega
      simp [hj, hj1, this]
     ·simp only [hj, hj1, if_false, ih]
      by_cases he : j = i
      ·simp [he]
      ·have : j / 2 - 1 ≠ i / 2 - 1 := by omega
       simp [he, this, Tr.get]
 | f + 1, .node v l r, i, x, j, h => by
  unfold Tr.setF
  by_cases h0 : i = 0
  ·subst h0
   simp only [if_true, Tr.get]
   by_cases hj : j = 0 <;> simp [hj]
  ·by_cases h1 : i % 2 = 1
   ·simp only [h0, h1, if_true, if_false, Tr.get]
    have ih := Tr.get_setF f l (i / 2) x (j / 2) (by omega)
    by_cases hj : j = 0
    ·simp [hj]; omega
    ·by_cases hj1 : j % 2 = 1
     ·simp only [hj, hj1, if_true, if_false, ih]
      by_cases he : j = i
      ·simp [he]
      ·have : j / 2 ≠ i / 2 := by omega
       simp [he, this]
     ·have : j ≠ i := by rintro rfl; omega
      simp [hj, hj1, this]
   ·simp only [h0, h1, if_false, Tr.get]
    have ih := Tr.get_setF f r (i / 2 - 1) x (j / 2 - 1) (by omega)
    by_cases hj : j = 0
    ·simp [hj]; omega
    ·by_cases hj1 : j % 2 = 1
     ·have : j ≠ i := by rintro rfl; omega
      simp [hj, hj1, this]
     ·simp only [hj, hj1, if_false, ih]
      by_cases he : j = i
      ·simp [he]
      ·have : j / 2 - 1 ≠ i / 2 - 1 := by omega
       simp [he, this]
theorem Tr.get_set (t : Tr α) (i : Nat) (x : α) (j : Nat) : (t.set i x).get j = if j = i then some x else t.get j := Tr.get_setF _ _ _ _ _ (by omega)
theorem Tr.get_set_eq (t : Tr α) (i : Nat) (x : α) : (t.set i x).get i = some x := by rw [Tr.get_set, if_pos rfl]
theorem Tr.get_set_ne (t : Tr α) {i j : Nat} (x : α) (h : j ≠ i) : (t.set i x).get j = t.get j := by rw [Tr.get_set, if_neg h]
theorem Tr.get_ofList : ∀ (l : List α) (i : Nat) (t : Tr α) (j : Nat), (Tr.ofList l i t).get j = if i ≤ j ∧ j < i + l.length then l[j - i]? else t.get j
 | [], i, t, j => by
  have : ¬ (i ≤ j ∧ j < i + ([] : List α).length) := by simp only [List.length_nil]; omega
  rw [if_neg this]; rfl
 | x :: r, i, t, j => by
  rw [Tr.ofList, Tr.get_ofList r (i + 1) _ j, Tr.get_set]
  by_cases hj : j = i
  ·subst hj
   have h1 : ¬ (j + 1 ≤ j ∧ j < j + 1 + r.length) := by omega
   have h2 : j ≤ j ∧ j < j + (x :: r).length := by simp
   rw [if_neg h1, if_pos rfl, if_pos h2]
   simp
  ·by_cases h1 : i + 1 ≤ j ∧ j < i + 1 + r.length
   ·have h2 : i ≤ j ∧ j < i + (x :: r).length := by simp; omega
    rw [if_pos h1, if_pos h2]
    have : j - i = (j - (i + 1)) + 1 := by omega
    rw [this]
    simp
   ·have h2 : ¬ (i ≤ j ∧ j < i + (x :: r).length) := by simp; omega
    rw [if_neg h1, if_neg h2, if_neg hj]
end trees
theorem quick_run {α : Type} {P : Program} {s : Sem α} {a : α} : quick P s = some a → ∀ w, s.run P w = .ok a w := by
 induction s with
 | pure b => intro h w; simp only [quick, Option.some.injEq] at h; subst h; rfl
 | program k ih => intro h w; exact ih P h w
 | mark m k ih => intro h w; exact ih h w
 | load => intro h; cases h
 | store => intro h; cases h
 | new => intro h; cases h
 | shape => intro h; cases h
 | freeze => intro h; cases h
 | frozen => intro h; cases h
 | getObj => intro h; cases h
 | setObj => intro h; cases h
 | choose => intro h; cases h
 | sys => intro h; cases h
 | halt => intro h; cases h
theorem quick_bind {α β : Type} {P : Program} {s : Sem α} {f : α → Sem β} : quick P (s >>= f) = (quick P s).bind fun a => quick P (f a) := by
 show quick P (Sem.bind s f) = _
 induction s with
 | pure b => rfl
 | program k ih => exact ih P
 | mark m k ih => exact ih
 | _ => rfl
structure Bx where
 g : Nat
 s : Nat
 lo : Nat
 z : Nat
abbrev Ren := Nat → Option Bx
def CapR (x : Bx) (off len cap cap' : Nat) : Prop :=
 (cap = len ∧ cap' = len) ∨ ∃ e, 0 < e ∧ cap = len + e ∧ len ≤ cap' ∧ x.s + (off - x.lo) + cap' * e ≤ x.z
def Bx.at_ (x : Bx) (off : Nat) : Addr := ⟨x.g, x.s + (off - x.lo), none⟩
inductive VR (β : Ren) : Value → Value → Prop where
 | free (v : Value) : free0 v = true → VR β v v
 | ptr {id off : Nat} {x : Bx} : β id = some x → x.lo ≤ off → VR β (.pointer (some ⟨id, off, none⟩)) (.pointer (some (x.at_ off)))
 | slice {id off len cap cap' : Nat} {x : Bx} {a' : Addr} : β id = some x → x.lo ≤ off → CapR x off len cap cap' → (cap' = 0 ∨ a' = x.at_ off) →
   VR β (.slice (some ⟨id, off, none⟩) len cap) (.slice (some a') len cap')
 | empty {a' : Option Addr} {c' : Nat} : VR β (.slice none 0 1) (.slice a' 0 c')
 | map {id : Nat} {x : Bx} : β id = some x → VR β (.map (some id)) (.map (some x.g))
 | func {f : FuncId} {a a' c c' : Array Value} : a.size = a'.size → (∀ (i : Nat) (v v' : Value), a[i]? = some v → a'[i]? = some v' → VR β v v') →
   c.size = c'.size → (∀ (i : Nat) (v v' : Value), c[i]? = some v → c'[i]? = some v' → VR β v v') → VR β (.func (.func f) a c) (.func (.func f) a' c')
 | yield {id : Nat} {x : Bx} : β id = some x → VR β (.func (.yield id) #[] #[]) (.func (.yield x.g) #[] #[])
 | iface {t : TypeId} {v v' : Value} : VR β v v' → VR β (.iface t v) (.iface t v')
 | agg {a a' : Array Value} : a.size = a'.size → (∀ (i : Nat) (v v' : Value), a[i]? = some v → a'[i]? = some v' → VR β v v') → VR β (.agg a) (.agg a')
 | tuple {a a' : Array Value} : a.size = a'.size → (∀ (i : Nat) (v v' : Value), a[i]? = some v → a'[i]? = some v' → VR β v v') → VR β (.tuple a) (.tuple a')
def VRl (β : Ren) (l l' : List Value) : Prop := l.length = l'.length ∧ ∀ (i : Nat) (v v' : Value), l[i]? = some v → l'[i]? = some v' → VR β v v'
def Sub (β β' : Ren) : Prop := ∀ id x, β id = some x → β' id = some x
theorem Sub.refl (β : Ren) : Sub β β := fun _ _ h => h
theorem Sub.trans {a b c : Ren} (h : Sub a b) (k : Sub b c) : Sub a c := fun _ _ e => k _ _ (h _ _ e)
theorem VR.mono {β β' : Ren} (hs : Sub β β') {v v' : Value} (h : VR β v v') : VR β' v v' := by
 induction h with
 | free v hv => exact .free v hv
 | ptr hb hl => exact .ptr (hs _ _ hb) hl
 | slice hb hl hc ha => exact .slice (hs _ _ hb) hl hc ha
 | empty => exact .empty
 | map hb => exact .map (hs _ _ hb)
 | yield hb => exact .yield (hs _ _ hb)
 | func h1 _ h2 _ ih1 ih2 => exact .func h1 ih1 h2 ih2
 | iface _ ih => exact .iface ih
 | agg h1 _ ih => exact .agg h1 ih
 | tuple h1 _ ih => exact .tuple h1 ih
theorem VRl.mono {β β' : Ren} (hs : Sub β β') {l l' : List Value} (h : VRl β l l') : VRl β' l l' := ⟨h.1, fun i v v' a b => (h.2 i v v' a b).mono hs⟩
theorem arr_free {a : Array Value} {p : Value → Bool} (h : a.toList.all p = true) {i : Nat} {v : Value} (hi : a[i]? = some v) : p v = true := by
 rw [List.all_eq_true] at h
 exact h v (Array.mem_toList_iff.2 (Array.mem_of_getElem? hi))
theorem VR.of_free1 {β : Ren} {v : Value} (h : free1 v = true) : VR β v v := by
 cases v with
 | agg cs =>
  refine .agg rfl fun i v v' h1 h2 => ?_
  rw [h1] at h2; cases h2
  exact .free _ (arr_free (p := free0) h h1)
 | _ => exact .free _ h
theorem VR.of_free {β : Ren} {v : Value} (h : AM.free v = true) : VR β v v := by
 cases v with
 | tuple cs =>
  refine .tuple rfl fun i v v' h1 h2 => ?_
  rw [h1] at h2; cases h2
  exact .of_free1 (arr_free (p := free1) h h1)
 | _ => exact .of_free1 h
theorem VR.free0_eq {β : Ren} {v v' : Value} (h : VR β v v') (hf : free0 v = true) : v' = v := by
 cases h <;> first | rfl | (simp [free0] at hf)
theorem arr_eq {a a' : Array Value} (h1 : a.size = a'.size) (h2 : ∀ (i : Nat) (v v' : Value), a[i]? = some v → a'[i]? = some v' → v' = v) : a' = a := by
 refine Array.ext_getElem? fun i => ?_
 by_cases hi : i < a.size
 ·have e1 : a[i]? = some a[i] := Array.getElem?_eq_getElem hi
  have e2 : a'[i]? = some (a'[i]'(by omega)) := Array.getElem?_eq_getElem (by omega)
  rw [e1, e2, h2 i _ _ e1 e2]
 ·rw [Array.getElem?_eq_none (by omega), Array.getElem?_eq_none (by omega)]
theorem VR.free1_eq {β : Ren} {v v' : Value} (h : VR β v v') (hf : free1 v = true) : v' = v := by
 cases h with
 | agg h1 h2 => rw [arr_eq h1 fun i v v' a b => (h2 i v v' a b).free0_eq (arr_free (p := free0) hf a)]
 | free v hv => rfl
 | _ => simp [free1, free0] at hf
theorem VR.free_eq {β : Ren} {v v' : Value} (h : VR β v v') (hf : AM.free v = true) : v' = v := by
 cases h with
 | tuple h1 h2 => rw [arr_eq h1 fun i v v' a b => (h2 i v v' a b).free1_eq (arr_free (p := free1) hf a)]
 | free v hv => rfl
 | agg h1 h2 => exact (VR.agg h1 h2).free1_eq hf
 | _ => simp [AM.free, free1, free0] at hf
theorem VRl.nil {β : Ren} : VRl β [] [] := ⟨rfl, fun i v v' h => by simp at h⟩
theorem VRl.cons {β : Ren} {v v' : Value} {l l' : List Value} (h : VR β v v') (k : VRl β l l') : VRl β (v :: l) (v' :: l') := by
 refine ⟨by simp [k.1], fun i u u' h1 h2 => ?_⟩
 cases i with
 | zero => simp at h1 h2; subst h1; subst h2; exact h
 | succ i => exact k.2 i u u' (by simpa using h1) (by simpa using h2)
theorem VRl.append {β : Ren} {l l' m m' : List Value} (h : VRl β l l') (k : VRl β m m') : VRl β (l ++ m) (l' ++ m') := by
 refine ⟨by simp [h.1, k.1], fun i u u' h1 h2 => ?_⟩
 by_cases hi : i < l.length
 ·rw [List.getElem?_append_left hi] at h1
  rw [List.getElem?_append_left (by rw [← h.1]; exact hi)] at h2
  exact h.2 i u u' h1 h2
 ·rw [List.getElem?_append_right (by omega)] at h1
  rw [List.getElem?_append_right (by rw [← h.1]; omega)] at h2
  rw [← h.1] at h2
  exact k.2 _ u u' h1 h2
theorem VRl.drop {β : Ren} {l l' : List Value} (h : VRl β l l') (n : Nat) : VRl β (l.drop n) (l'.drop n) :=
 ⟨by simp [h.1], fun i u u' h1 h2 => h.2 (n + i) u u' (by simpa [List.getElem?_drop] using h1) (by simpa [List.getElem?_drop] using h2)⟩
theorem VRl.take {β : Ren} {l l' : List Value} (h : VRl β l l') (n : Nat) : VRl β (l.take n) (l'.take n) := by
 refine ⟨by simp [h.1], fun i u u' h1 h2 => ?_⟩
 by_cases hi : i < n
 ·rw [List.getElem?_take_of_lt hi] at h1 h2
  exact h.2 i u u' h1 h2
 ·rw [List.getElem?_eq_none (by simp; omega)] at h1
  cases h1
theorem VRl.free {β : Ren} : ∀ {l : List Value}, l.all free1 = true → VRl β l l
 | [], _ => .nil
 | v :: l, h => by
  simp only [List.all_cons, Bool.and_eq_true] at h
  exact .cons (.of_free1 h.1) (VRl.free h.2)
theorem VRl.free_eq {β : Ren} : ∀ {l l' : List Value}, VRl β l l' → l.all free1 = true → l' = l
 | [], [], _, _ => rfl
 | [], _ :: _, h, _ => by have := h.1; simp at this
 | _ :: _, [], h, _ => by have := h.1; simp at this
 | v :: l, v' :: l', h, hf => by
  simp only [List.all_cons, Bool.and_eq_true] at hf
  have h0 : v' = v := (h.2 0 v v' rfl rfl).free1_eq hf.1
  have h1 : l' = l := VRl.free_eq (β := β) ⟨by have := h.1; simpa using this, fun i u u' a b => h.2 (i + 1) u u' (by simpa using a) (by simpa using b)⟩ hf.2
  rw [h0, h1]
theorem VR.cells {β : Ren} {v v' : Value} (h : VR β v v') : VRl β v.cells.toList v'.cells.toList := by
 cases h with
 | agg h1 h2 => exact ⟨by simpa [Value.cells] using h1, fun i u u' a b => h2 i u u' (by simpa [Value.cells] using a) (by simpa [Value.cells] using b)⟩
 | free v hv =>
  cases v with
  | agg cs => simp [free0] at hv
  | _ => exact .cons (.free _ hv) .nil
 | ptr a b => exact .cons (.ptr a b) .nil
 | slice a b c d => exact .cons (.slice a b c d) .nil
 | empty => exact .cons .empty .nil
 | map a => exact .cons (.map a) .nil
 | yield a => exact .cons (.yield a) .nil
 | func a b c d => exact .cons (.func a b c d) .nil
 | iface a => exact .cons (.iface a) .nil
 | tuple a b => exact .cons (.tuple a b) .nil
theorem VRl.toArr {β : Ren} {l l' : List Value} (h : VRl β l l') : VR β (.agg ⟨l⟩) (.agg ⟨l'⟩) :=
 .agg (by simpa using h.1) fun i v v' a b => h.2 i v v' (by simpa using a) (by simpa using b)
theorem VRl.toTup {β : Ren} {l l' : List Value} (h : VRl β l l') : VR β (.tuple ⟨l⟩) (.tuple ⟨l'⟩) :=
 .tuple (by simpa using h.1) fun i v v' a b => h.2 i v v' (by simpa using a) (by simpa using b)
def EnvW (β : Ren) (e : Tr Value) (tmps : Array Value) : Prop := ∀ t v, e.get t = some v → ∃ v', tmps[t]? = some v' ∧ VR β v v'
theorem EnvW.mono {β β' : Ren} (hs : Sub β β') {e : Tr Value} {tmps : Array Value} (h : EnvW β e tmps) : EnvW β' e tmps := fun t v hv => let ⟨v', a, b⟩ := h t v hv; ⟨v', a, b.mono hs⟩
theorem EnvW.set {β : Ren} {e : Tr Value} {tmps : Array Value} (h : EnvW β e tmps) {d : Nat} {v v' : Value} (hd : d < tmps.size) (hv : VR β v v') : EnvW β (e.set d v) (tmps.setIfInBounds d v') := by
 intro t u hu
 rw [Tr.get_set] at hu
 by_cases hq : t = d
 ·subst hq
  rw [if_pos rfl] at hu
  cases hu
  exact ⟨v', Array.getElem?_setIfInBounds_self_of_lt hd, hv⟩
 ·rw [if_neg hq] at hu
  rw [Array.getElem?_setIfInBounds_ne (Ne.symm hq)]
  exact h t u hu
structure LoopR (β : Ren) (r : ALoop) (r' : Loop) : Prop where
 state : r'.state = r.state
 pending : r'.pending = r.pending
 env : EnvW β r.e r'.tmps
 sz : r'.tmps.size = r.sz
 params : r'.params = r.params
 assign : r'.assign = r.assign
 body : r'.body = r.body
theorem LoopR.mono {β β' : Ren} (hs : Sub β β') {r : ALoop} {r' : Loop} (h : LoopR β r r') : LoopR β' r r' := { h with env := h.env.mono hs }
theorem VR.oneC {β : Ren} {v v' : Value} (h : VR β v v') : AM.oneC v' = AM.oneC v := by
 cases h <;> rfl
end Go.AM
namespace Go.AM
def NoFrz (fz : Nat × Nat) (n : Nat) : Prop := ∀ p, p < n → ¬ (fz.1 ≤ p ∧ p < fz.2)
structure RowR (β : Ren) (w : World) (id : Nat) (x : Bx) (f : Fam) : Prop where
 lo : x.lo = f.lo
 ex : ∃ c el fz, w.heap[x.g]? = some (.cells c el fz) ∧ c.size = x.z ∧
  (∀ p v, f.lo ≤ p → p < f.rb id → f.data[p]? = some v → ∃ v', c[x.s + (p - x.lo)]? = some v' ∧ VR β v v') ∧
  (f.ro = false → NoFrz fz c.size ∧ x.s + (f.n - f.lo) ≤ x.z)
structure EntR (β : Ren) (a b : MapEntry) : Prop where
 key : b.key = a.key
 fk : free1 a.key = true
 val : VR β a.val b.val
 born : b.born = a.born
def EsR (β : Ren) (l l' : List MapEntry) : Prop := l.length = l'.length ∧ ∀ (i : Nat) (a b : MapEntry), l[i]? = some a → l'[i]? = some b → EntR β a b
structure HR (β : Ren) (h : AH) (w : World) : Prop where
 dom : ∀ id x, β id = some x → id < h.next ∧ x.g < w.heap.size
 row : ∀ id x f, β id = some x → h.fam id = some f → RowR β w id x f
 map : ∀ id x es ck, β id = some x → h.t.get id = some (.map es ck) → ∃ es' : Array MapEntry, w.heap[x.g]? = some (.map es' ck) ∧ EsR β es es'.toList
 loop : ∀ id x r, β id = some x → h.t.get id = some (.loop r) → ∃ r', w.heap[x.g]? = some (.loop r') ∧ LoopR β r r'
 disj : ∀ id id' x x', β id = some x → β id' = some x' → x.g = x'.g → id = id' ∨
  ∃ f f', h.fam id = some f ∧ h.fam id' = some f' ∧ ((f.root = f'.root ∧ x.s + x'.lo = x'.s + x.lo) ∨ (f.ro = true ∧ f'.ro = true))
structure Wf (h : AH) : Prop where
 lt : ∀ id o, h.t.get id = some o → id < h.next
 lon : ∀ id f, h.fam id = some f → f.lo ≤ f.n
 curn : ∀ id f, h.fam id = some f → id = f.cur → f.n = f.data.length
 stale : ∀ id f, h.fam id = some f → id ≠ f.cur → min (lowAt f.low id) f.n ≤ f.data.length
 cur : ∀ id f, h.fam id = some f → f.cur < h.next
 ali : ∀ id r lo n, h.t.get id = some (.alias r lo n) → ∃ d c l ro n0, h.t.get r = some (.row d c l ro n0) ∧ c ≠ r
theorem fam_root {h : AH} {id : Nat} {f : Fam} (hf : h.fam id = some f) : ∃ n0, h.t.get f.root = some (.row f.data f.cur f.low f.ro n0) := by
 unfold AH.fam at hf
 split at hf
 ·rename_i d c l ro n0 hg
  cases hf
  exact ⟨n0, hg⟩
 ·rename_i r lo n hg
  split at hf
  ·rename_i d c l ro n0 hg'
   cases hf
   exact ⟨n0, hg'⟩
  ·cases hf
 ·cases hf
theorem fam_lt {h : AH} (hw : Wf h) {id : Nat} {f : Fam} (hf : h.fam id = some f) : id < h.next := by
 unfold AH.fam at hf
 split at hf <;> first | exact hw.lt _ _ ‹_› | cases hf
theorem fam_not_map {h : AH} {id : Nat} {f : Fam} {es : List MapEntry} {ck : Nat} (hf : h.fam id = some f) (hm : h.t.get id = some (.map es ck)) : False := by
 unfold AH.fam at hf
 rw [hm] at hf
 cases hf
theorem fam_not_loop {h : AH} {id : Nat} {f : Fam} {r : ALoop} (hf : h.fam id = some f) (hm : h.t.get id = some (.loop r)) : False := by
 unfold AH.fam at hf
 rw [hm] at hf
 cases hf
theorem rootOf_eq {h : AH} {id : Nat} {f : Fam} (hf : h.fam id = some f) : rootOf h id = f.root := by unfold rootOf; rw [hf]
def roOf (h : AH) (id : Nat) : Bool := match h.fam id with | some f => f.ro | none => false
structure Evo (β : Ren) (h : AH) (w : World) (β' : Ren) (h' : AH) (w' : World) : Prop where
 sub : Sub β β'
 new : ∀ id x, β' id = some x → β id = none → h.next ≤ id
 all : ∀ id, h.next ≤ id → id < h'.next → (β' id).isSome = true
 blk : ∀ id x, β' id = some x → β id = none → w.heap.size ≤ x.g ∨ ∃ id0 x0, β id0 = some x0 ∧ x0.g = x.g ∧ h'.wr ≤ rootOf h id0 ∧ roOf h id0 = false
 size : w.heap.size ≤ w'.heap.size
 os : w'.os = w.os
 tape : w'.tape = w.tape
 output : w'.output = w.output
 frame : ∀ b, b < w.heap.size → w'.heap[b]? = w.heap[b]? ∨ ∃ id x, β id = some x ∧ x.g = b ∧ h'.wr ≤ rootOf h id ∧ roOf h id = false
 next : h.next ≤ h'.next
 wr : h'.wr ≤ h.wr
 root : ∀ id, id < h.next → rootOf h' id = rootOf h id
 ro : ∀ id, id < h.next → roOf h' id = roOf h id
 objs : ∀ id, id < h.next → id < h'.wr → h'.t.get id = h.t.get id
theorem Evo.refl (β : Ren) (h : AH) (w : World) : Evo β h w β h w where
 sub := .refl _
 new := fun id x a b => by rw [a] at b; cases b
 all := fun id a b => by omega
 blk := fun id x a b => by rw [a] at b; cases b
 size := Nat.le_refl _
 os := rfl
 tape := rfl
 output := rfl
 frame := fun _ _ => .inl rfl
 next := Nat.le_refl _
 wr := Nat.le_refl _
 root := fun _ _ => rfl
 ro := fun _ _ => rfl
 objs := fun _ _ _ => rfl
theorem Evo.trans {β β' β'' : Ren} {h h' h'' : AH} {w w' w'' : World} (hr : HR β h w) (a : Evo β h w β' h' w') (b : Evo β' h' w' β'' h'' w'') : Evo β h w β'' h'' w'' where
 sub := a.sub.trans b.sub
 new := fun id x h1 h2 => by
  cases h3 : β' id with
  | none => exact Nat.le_trans a.next (b.new id x h1 h3)
  | some y => exact a.new id y h3 h2
 all := fun id h1 h2 => by
  by_cases h3 : id < h'.next
  ·have := a.all id h1 h3
   cases h4 : β' id with
   | none => rw [h4] at this; cases this
   | some y => rw [b.sub _ _ h4]; rfl
  ·exact b.all id (by omega) h2
 blk := fun id x h1 h2 => by
  cases h3 : β' id with
  | some y =>
   have := b.sub _ _ h3
   rw [h1] at this
   cases this
   rcases a.blk id x h3 h2 with h4 | ⟨id0, x0, k1, k2, k3, k4⟩
   ·exact .inl h4
   ·exact .inr ⟨id0, x0, k1, k2, Nat.le_trans b.wr k3, k4⟩
  | none =>
   rcases b.blk id x h1 h3 with h4 | ⟨id0, x0, k1, k2, k3, k4⟩
   ·exact .inl (Nat.le_trans a.size h4)
   ·cases h5 : β id0 with
    | some y =>
     have := a.sub _ _ h5
     rw [k1] at this
     cases this
     have hl := (hr.dom _ _ h5).1
     exact .inr ⟨id0, x0, h5, k2, by rw [← a.root _ hl]; exact k3, by rw [← a.ro _ hl]; exact k4⟩
    | none =>
     rcases a.blk id0 x0 k1 h5 with h4 | ⟨id1, x1, m1, m2, m3, m4⟩
     ·exact .inl (by rw [← k2]; exact h4)
     ·exact .inr ⟨id1, x1, m1, by rw [m2, k2], Nat.le_trans b.wr m3, m4⟩
 size := Nat.le_trans a.size b.size
 os := b.os.trans a.os
 tape := b.tape.trans a.tape
 output := b.output.trans a.output
 frame := fun n hn => by
  rcases b.frame n (Nat.lt_of_lt_of_le hn a.size) with h1 | ⟨id, x, k1, k2, k3, k4⟩
  ·rcases a.frame n hn with h2 | ⟨id, x, k1, k2, k3, k4⟩
   ·exact .inl (h1.trans h2)
   ·exact .inr ⟨id, x, k1, k2, Nat.le_trans b.wr k3, k4⟩
  ·cases h5 : β id with
   | some y =>
    have := a.sub _ _ h5
    rw [k1] at this
    cases this
    have hl := (hr.dom _ _ h5).1
    exact .inr ⟨id, x, h5, k2, by rw [← a.root _ hl]; exact k3, by rw [← a.ro _ hl]; exact k4⟩
   | none =>
    rcases a.blk id x k1 h5 with h4 | ⟨id1, x1, m1, m2, m3, m4⟩
    ·omega
    ·exact .inr ⟨id1, x1, m1, by rw [m2, k2], Nat.le_trans b.wr m3, m4⟩
 next := Nat.le_trans a.next b.next
 wr := Nat.le_trans b.wr a.wr
 root := fun id h1 => (b.root id (Nat.lt_of_lt_of_le h1 a.next)).trans (a.root id h1)
 ro := fun id h1 => (b.ro id (Nat.lt_of_lt_of_le h1 a.next)).trans (a.ro id h1)
 objs := fun id h1 h2 => (b.objs id (Nat.lt_of_lt_of_le h1 a.next) h2).trans (a.objs id h1 (Nat.lt_of_lt_of_le h2 b.wr))
def upd (β : Ren) (id : Nat) (x : Bx) : Ren := fun i => if i = id then some x else β i
theorem upd_same (β : Ren) (id : Nat) (x : Bx) : upd β id x id = some x := if_pos rfl
theorem upd_ne (β : Ren) {id i : Nat} (x : Bx) (h : i ≠ id) : upd β id x i = β i := if_neg h
theorem sub_upd {β : Ren} {id : Nat} (x : Bx) (h : β id = none) : Sub β (upd β id x) := fun i y hi => by
 by_cases he : i = id
 ·subst he; rw [h] at hi; cases hi
 ·rw [upd_ne _ _ he]; exact hi
theorem HR.none_next {β : Ren} {h : AH} {w : World} (hr : HR β h w) {id : Nat} (hi : h.next ≤ id) : β id = none := by
 cases hb : β id with
 | none => rfl
 | some x => have := (hr.dom _ _ hb).1; omega
theorem fam_set_next {h : AH} (hw : Wf h) {o : AObj} {n wr : Nat} {id : Nat} (hid : id < h.next) :
  (⟨h.t.set h.next o, n, wr⟩ : AH).fam id = h.fam id := by
 unfold AH.fam
 have h1 : (h.t.set h.next o).get id = h.t.get id := Tr.get_set_ne _ _ (by omega)
 simp only [h1]
 cases hg : h.t.get id with
 | none => rfl
 | some ob =>
  cases ob with
  | row => rfl
  | map => rfl
  | loop => rfl
  | alias r lo m =>
   simp only
   obtain ⟨d, c, l, ro, n0, hr, _⟩ := hw.ali _ _ _ _ hg
   have : r < h.next := hw.lt _ _ hr
   rw [Tr.get_set_ne _ _ (by omega)]
theorem fam_newRow {h : AH} {cells : List Value} : (newRow h cells).2.fam h.next = some ⟨h.next, 0, cells.length, cells, h.next, BIG, false⟩ := by
 simp [newRow, AH.fam, Tr.get_set_eq]
theorem wf_newRow {h : AH} (hw : Wf h) (cells : List Value) : Wf (newRow h cells).2 := by
 have hf : ∀ {id f}, (newRow h cells).2.fam id = some f → (id < h.next ∧ h.fam id = some f) ∨ (id = h.next ∧ f = ⟨h.next, 0, cells.length, cells, h.next, BIG, false⟩) := by
  intro id f hf
  by_cases h1 : id = h.next
  ·subst h1; rw [fam_newRow] at hf; cases hf; exact .inr ⟨rfl, rfl⟩
  ·have hl : id < h.next := by
    unfold AH.fam newRow at hf
    simp only [Tr.get_set_ne _ _ h1] at hf
    cases hg : h.t.get id with
    | none => rw [hg] at hf; cases hf
    | some o => exact hw.lt _ _ hg
   exact .inl ⟨hl, by rw [← hf]; exact (fam_set_next hw hl).symm⟩
 constructor
 ·intro id o ho
  by_cases h1 : id = h.next
  ·subst h1; exact Nat.lt_succ_self _
  ·have := hw.lt id o (by simpa [newRow, Tr.get_set_ne _ _ h1] using ho)
   exact Nat.lt_succ_of_lt this
 ·intro id f h1
  rcases hf h1 with ⟨_, h2⟩ | ⟨_, rfl⟩
  ·exact hw.lon _ _ h2
  ·exact Nat.zero_le _
 ·intro id f h1 h3
  rcases hf h1 with ⟨_, h2⟩ | ⟨_, rfl⟩
  ·exact hw.curn _ _ h2 h3
  ·rfl
 ·intro id f h1 h3
  rcases hf h1 with ⟨_, h2⟩ | ⟨rfl, rfl⟩
  ·exact hw.stale _ _ h2 h3
  ·exact absurd rfl h3
 ·intro id f h1
  rcases hf h1 with ⟨_, h2⟩ | ⟨_, rfl⟩
  ·exact Nat.lt_succ_of_lt (hw.cur _ _ h2)
  ·exact Nat.lt_succ_self _
 ·intro id r lo n ho
  by_cases h1 : id = h.next
  ·subst h1; simp [newRow, Tr.get_set_eq] at ho
  ·obtain ⟨d, c, l, ro, n0, hr, hc⟩ := hw.ali id r lo n (by simpa [newRow, Tr.get_set_ne _ _ h1] using ho)
   have : r < h.next := hw.lt _ _ hr
   refine ⟨d, c, l, ro, n0, ?_, hc⟩
   exact (by simpa [newRow, Tr.get_set_ne _ _ (show r ≠ h.next by omega)] using hr)
theorem heap_old {w : World} {o : Obj} {b : Nat} (hb : b < w.heap.size) : (w.alloc o).heap[b]? = w.heap[b]? := by
 show (w.heap.push o)[b]? = _
 rw [Array.getElem?_push, if_neg (Nat.ne_of_lt hb)]
theorem heap_new {w : World} {o : Obj} : (w.alloc o).heap[w.heap.size]? = some o := by
 show (w.heap.push o)[w.heap.size]? = _
 rw [Array.getElem?_push, if_pos rfl]
theorem RowR.mono {β β' : Ren} {w w' : World} {id : Nat} {x : Bx} {f : Fam} (h : RowR β w id x f) (hs : Sub β β') (hb : w'.heap[x.g]? = w.heap[x.g]?) : RowR β' w' id x f := by
 obtain ⟨hlo, c, el, fz, h1, h2, h3, h4⟩ := h
 refine ⟨hlo, c, el, fz, hb.trans h1, h2, fun p v a b d => ?_, h4⟩
 obtain ⟨v', e1, e2⟩ := h3 p v a b d
 exact ⟨v', e1, e2.mono hs⟩
theorem EsR.mono {β β' : Ren} (hs : Sub β β') {l l' : List MapEntry} (h : EsR β l l') : EsR β' l l' :=
 ⟨h.1, fun i a b h1 h2 => ⟨(h.2 i a b h1 h2).key, (h.2 i a b h1 h2).fk, (h.2 i a b h1 h2).val.mono hs, (h.2 i a b h1 h2).born⟩⟩
theorem hr_new {β : Ren} {h : AH} {w : World} (hr : HR β h w) (hw : Wf h) (ob : AObj) (o : Obj) (z : Nat)
  (hrow : ∀ d c l ro n0, ob = .row d c l ro n0 → c = h.next ∧ ro = false ∧ n0 = d.length ∧ ∃ cs el, o = .cells cs el ∧ cs.size = z ∧ d.length ≤ z ∧ ∀ (p : Nat) (v : Value), d[p]? = some v → ∃ v' : Value, cs[p]? = some v' ∧ VR β v v')
  (hmap : ∀ es ck, ob = .map es ck → ∃ es' : Array MapEntry, o = .map es' ck ∧ EsR β es es'.toList)
  (hloop : ∀ r, ob = .loop r → ∃ r', o = .loop r' ∧ LoopR β r r')
  (hali : ∀ r lo n, ob ≠ .alias r lo n) :
  HR (upd β h.next ⟨w.heap.size, 0, 0, z⟩) { h with t := h.t.set h.next ob, next := h.next + 1 } (w.alloc o) ∧
  Evo β h w (upd β h.next ⟨w.heap.size, 0, 0, z⟩) { h with t := h.t.set h.next ob, next := h.next + 1 } (w.alloc o) := by
 have hn : β h.next = none := hr.none_next (Nat.le_refl _)
 have hs : Sub β (upd β h.next ⟨w.heap.size, 0, 0, z⟩) := sub_upd _ hn
 have hold : ∀ {id x}, upd β h.next ⟨w.heap.size, 0, 0, z⟩ id = some x → (id = h.next ∧ x = ⟨w.heap.size, 0, 0, z⟩) ∨ (id < h.next ∧ β id = some x) := by
  intro id x hx
  by_cases h1 : id = h.next
  ·subst h1; rw [upd_same] at hx; cases hx; exact .inl ⟨rfl, rfl⟩
  ·rw [upd_ne _ _ h1] at hx; exact .inr ⟨(hr.dom _ _ hx).1, hx⟩
 have hfam : ∀ {id}, id < h.next → ({ h with t := h.t.set h.next ob, next := h.next + 1 } : AH).fam id = h.fam id := fun hid => fam_set_next hw hid
 refine ⟨⟨?_, ?_, ?_, ?_, ?_⟩, ?_⟩
 ·intro id x hx
  rcases hold hx with ⟨rfl, rfl⟩ | ⟨h1, h2⟩
  ·exact ⟨Nat.lt_succ_self _, by simp⟩
  ·have := hr.dom _ _ h2
   exact ⟨Nat.lt_succ_of_lt this.1, by simp; omega⟩
 ·intro id x f hx hf
  rcases hold hx with ⟨rfl, rfl⟩ | ⟨h1, h2⟩
  ·cases ob with
   | alias r lo n => exact absurd rfl (hali r lo n)
   | map es ck => simp [AH.fam, Tr.get_set_eq] at hf
   | loop r => simp [AH.fam, Tr.get_set_eq] at hf
   | row d c l ro n0 =>
    obtain ⟨rfl, rfl, rfl, cs, el, rfl, hz, hd, hp⟩ := hrow d c l ro n0 rfl
    simp [AH.fam, Tr.get_set_eq] at hf
    subst hf
    refine ⟨rfl, cs, el, (0, 0), heap_new, hz, fun p v a b c => ?_, fun _ => ⟨fun p _ q => by simp at q, by simpa using hd⟩⟩
    obtain ⟨v', e1, e2⟩ := hp p v c
    exact ⟨v', by simpa using e1, e2.mono hs⟩
  ·rw [hfam h1] at hf
   exact (hr.row _ _ _ h2 hf).mono hs (heap_old (hr.dom _ _ h2).2)
 ·intro id x es ck hx hm
  rcases hold hx with ⟨rfl, rfl⟩ | ⟨h1, h2⟩
  ·rw [Tr.get_set_eq] at hm
   cases hm
   obtain ⟨es', rfl, he⟩ := hmap es ck rfl
   exact ⟨es', heap_new, he.mono hs⟩
  ·rw [Tr.get_set_ne _ _ (by omega)] at hm
   obtain ⟨es', e1, e2⟩ := hr.map _ _ _ _ h2 hm
   exact ⟨es', (heap_old (hr.dom _ _ h2).2).trans e1, e2.mono hs⟩
 ·intro id x r hx hm
  rcases hold hx with ⟨rfl, rfl⟩ | ⟨h1, h2⟩
  ·rw [Tr.get_set_eq] at hm
   cases hm
   obtain ⟨r', rfl, he⟩ := hloop r rfl
   exact ⟨r', heap_new, he.mono hs⟩
  ·rw [Tr.get_set_ne _ _ (by omega)] at hm
   obtain ⟨r', e1, e2⟩ := hr.loop _ _ _ h2 hm
   exact ⟨r', (heap_old (hr.dom _ _ h2).2).trans e1, e2.mono hs⟩
 ·intro id id' x x' hx hx' hg
  rcases hold hx with ⟨rfl, rfl⟩ | ⟨h1, h2⟩
  ·rcases hold hx' with ⟨rfl, rfl⟩ | ⟨h3, h4⟩
   ·exact .inl rfl
   ·have := (hr.dom _ _ h4).2; simp at hg; omega
  ·rcases hold hx' with ⟨rfl, rfl⟩ | ⟨h3, h4⟩
   ·have := (hr.dom _ _ h2).2; simp at hg; omega
   ·rcases hr.disj _ _ _ _ h2 h4 hg with h5 | ⟨f, f', k1, k2, k3⟩
    ·exact .inl h5
    ·exact .inr ⟨f, f', by rw [hfam h1]; exact k1, by rw [hfam h3]; exact k2, k3⟩
 ·exact {
   sub := hs
   new := fun id x h1 h2 => by
    rcases hold h1 with ⟨rfl, _⟩ | ⟨h3, h4⟩
    ·exact Nat.le_refl _
    ·rw [h2] at h4; cases h4
   all := fun id h1 h2 => by
    have : id = h.next := by simp at h2; omega
    subst this
    rw [upd_same]; rfl
   blk := fun id x h1 h2 => by
    rcases hold h1 with ⟨rfl, rfl⟩ | ⟨h3, h4⟩
    ·exact .inl (Nat.le_refl _)
    ·rw [h2] at h4; cases h4
   size := by simp
   os := rfl
   tape := rfl
   output := rfl
   frame := fun b hb => .inl (heap_old hb)
   next := Nat.le_succ _
   wr := Nat.le_refl _
   root := fun id hid => by unfold rootOf; rw [hfam hid]
   ro := fun id hid => by unfold roOf; rw [hfam hid]
   objs := fun id hid _ => Tr.get_set_ne _ _ (by omega) }
theorem hr_newRow {β : Ren} {h : AH} {w : World} (hr : HR β h w) (hw : Wf h) (cells : List Value) (c : Array Value) (el : TypeId) (hl : cells.length ≤ c.size)
  (hc : ∀ (p : Nat) (v : Value), cells[p]? = some v → ∃ v' : Value, c[p]? = some v' ∧ VR β v v') :
  HR (upd β h.next ⟨w.heap.size, 0, 0, c.size⟩) (newRow h cells).2 (w.alloc (.cells c el)) ∧ Wf (newRow h cells).2 ∧
  Evo β h w (upd β h.next ⟨w.heap.size, 0, 0, c.size⟩) (newRow h cells).2 (w.alloc (.cells c el)) := by
 have := hr_new hr hw (.row cells h.next BIG false cells.length) (.cells c el) c.size
  (fun d c' l ro n0 e => by
   cases e
   exact ⟨rfl, rfl, rfl, c, el, rfl, rfl, hl, hc⟩)
  (fun es ck e => by cases e) (fun r e => by cases e) (fun r lo n e => by cases e)
 exact ⟨this.1, wf_newRow hw cells, this.2⟩
end Go.AM
namespace Go.AM
structure Wrote (w w' : World) (g pos : Nat) (vs : List Value) : Prop where
 ex : ∀ c el fz, w.heap[g]? = some (.cells c el fz) → ∃ c' : Array Value, w'.heap[g]? = some (.cells c' el fz) ∧ c'.size = c.size ∧
  ∀ q : Nat, c'[q]? = if pos ≤ q ∧ q < pos + vs.length then vs[q - pos]? else c[q]?
 oth : ∀ b, b ≠ g → w'.heap[b]? = w.heap[b]?
 size : w'.heap.size = w.heap.size
 os : w'.os = w.os
 tape : w'.tape = w.tape
 output : w'.output = w.output
theorem oneC_eq (v : Value) : v.oneCell' = oneC v := by cases v <;> rfl
theorem run_stores (P : Program) (g el : Nat) (fz : Nat × Nat) (o : Nat) : ∀ (vs : List Value) (i : Nat) (w : World) (c : Array Value), w.heap[g]? = some (.cells c el fz) → NoFrz fz c.size →
  o + i + vs.length ≤ c.size → vs.all oneC = true → ∃ w', (storeCells ⟨g, o, none⟩ vs i).run P w = .ok () w' ∧ Wrote w w' g (o + i) vs
 | [], i, w, c, hg, _, _, _ => by
  refine ⟨w, rfl, fun c' el' fz' h => ⟨c', h, rfl, fun q => ?_⟩, fun _ _ => rfl, rfl, rfl, rfl, rfl⟩
  have : ¬ (o + i ≤ q ∧ q < o + i + ([] : List Value).length) := by simp only [List.length_nil]; omega
  rw [if_neg this]
 | v :: rest, i, w, c, hg, hz, hl, h1 => by
  simp only [List.length_cons] at hl
  simp only [List.all_cons, Bool.and_eq_true] at h1
  have hi : o + i < c.size := by omega
  have hadd : (⟨g, o, none⟩ : Addr).add i = ⟨g, o + i, none⟩ := by unfold Addr.add; split <;> simp_all
  have hcell : w.cell? ⟨g, o + i, none⟩ = some c[o + i] := by simp [World.cell?, hg, hi]
  have hfro : w.frozen? ⟨g, o + i, none⟩ = false := by
   have := hz (o + i) hi
   simp only [World.frozen?, hg]
   simp only [Bool.and_eq_false_iff, decide_eq_false_iff_not]
   omega
  have hst : (store ((⟨g, o, none⟩ : Addr).add i) v).run P w = .ok () (w.setCell ⟨g, o + i, none⟩ v) := by
   rw [hadd, run_store P w _ v _ (by rw [oneC_eq]; exact h1.1), hcell]
   simp [hfro]
  have hg' : (w.setCell ⟨g, o + i, none⟩ v).heap[g]? = some (.cells (c.setIfInBounds (o + i) v) el fz) := by
   simp [World.setCell, Array.getElem?_modify, hg]
  obtain ⟨w', hr, hw⟩ := run_stores P g el fz o rest (i + 1) (w.setCell ⟨g, o + i, none⟩ v) (c.setIfInBounds (o + i) v) hg' (by simpa using hz) (by simp; omega) h1.2
  refine ⟨w', by simp only [storeCells, Sem.run_bind, hst, Result.andThen_ok, hr], fun c0 el0 fz0 h => ?_, fun b hb => ?_, by rw [hw.size]; simp [World.setCell], hw.os, hw.tape, hw.output⟩
  ·rw [hg] at h
   cases h
   obtain ⟨c', e1, e2, e3⟩ := hw.ex _ _ _ hg'
   refine ⟨c', e1, by simpa using e2, fun q => ?_⟩
   rw [e3 q]
   by_cases hq : q = o + i
   ·subst hq
    have a1 : ¬ (o + (i + 1) ≤ o + i ∧ o + i < o + (i + 1) + rest.length) := by omega
    have a2 : o + i ≤ o + i ∧ o + i < o + i + (v :: rest).length := by simp
    rw [if_neg a1, if_pos a2]
    simp [hi]
   ·by_cases h2 : o + (i + 1) ≤ q ∧ q < o + (i + 1) + rest.length
    ·have a2 : o + i ≤ q ∧ q < o + i + (v :: rest).length := by simp only [List.length_cons]; omega
     rw [if_pos h2, if_pos a2]
     have : q - (o + i) = (q - (o + (i + 1))) + 1 := by omega
     rw [this]
     simp
    ·have a2 : ¬ (o + i ≤ q ∧ q < o + i + (v :: rest).length) := by simp only [List.length_cons]; omega
     rw [if_neg h2, if_neg a2, Array.getElem?_setIfInBounds_ne (by omega)]
  ·rw [hw.oth b hb]
   simp [World.setCell, Array.getElem?_modify, Ne.symm hb]
theorem fam_setRoot {h : AH} {r : Nat} {d : List Value} {c l : Nat} {ro : Bool} {n0 : Nat} (hg : h.t.get r = some (.row d c l ro n0)) (d' : List Value) (c' l' : Nat) (ro' : Bool) (nx wr id : Nat) :
  (⟨h.t.set r (.row d' c' l' ro' n0), nx, wr⟩ : AH).fam id = (h.fam id).map fun f => if f.root = r then { f with data := d', cur := c', low := l', ro := ro' } else f := by
 unfold AH.fam
 simp only
 by_cases h1 : id = r
 ·subst h1
  rw [Tr.get_set_eq, hg]
  simp
 ·rw [Tr.get_set_ne _ _ h1]
  cases h2 : h.t.get id with
  | none => rfl
  | some o =>
   cases o with
   | map => rfl
   | loop => rfl
   | row => simp [h1]
   | alias r' lo n =>
    simp only
    by_cases h3 : r' = r
    ·subst h3
     rw [Tr.get_set_eq, hg]
     simp
    ·rw [Tr.get_set_ne _ _ h3]
     cases h4 : h.t.get r' with
     | none => rfl
     | some o' => cases o' <;> simp [h3]
theorem splice_get (d : List Value) (off : Nat) (vs : List Value) (h : off + vs.length ≤ d.length) (p : Nat) :
  (splice d off vs)[p]? = if off ≤ p ∧ p < off + vs.length then vs[p - off]? else d[p]? := by
 unfold splice
 by_cases h1 : p < off
 ·have : ¬ (off ≤ p ∧ p < off + vs.length) := by omega
  rw [if_neg this, List.append_assoc, List.getElem?_append_left (by simp; omega), List.getElem?_take_of_lt h1]
 ·by_cases h2 : p < off + vs.length
  ·rw [if_pos ⟨by omega, h2⟩, List.append_assoc, List.getElem?_append_right (by simp; omega)]
   have : p - (d.take off).length = p - off := by simp; omega
   rw [this, List.getElem?_append_left (by omega)]
  ·have : ¬ (off ≤ p ∧ p < off + vs.length) := by omega
   rw [if_neg this, List.getElem?_append_right (by simp; omega), List.getElem?_drop]
   congr 1
   simp
   omega
theorem splice_length (d : List Value) (off : Nat) (vs : List Value) (h : off + vs.length ≤ d.length) : (splice d off vs).length = d.length := by
 unfold splice; simp; omega
section
variable {β : Ren} {h : AH} {w w' : World}
theorem fam_same {id id' : Nat} {f f' : Fam} (hf : h.fam id = some f) (hf' : h.fam id' = some f') (hr : f.root = f'.root) : f'.data = f.data ∧ f'.cur = f.cur ∧ f'.low = f.low ∧ f'.ro = f.ro := by
 obtain ⟨n0, h1⟩ := fam_root hf
 obtain ⟨n1, h2⟩ := fam_root hf'
 rw [hr] at h1
 rw [h1] at h2
 simp only [Option.some.injEq, AObj.row.injEq] at h2
 exact ⟨h2.1.symm, h2.2.1.symm, h2.2.2.1.symm, h2.2.2.2.1.symm⟩
theorem ne_root_of_stale (hw : Wf h) {id : Nat} {f : Fam} (hf : h.fam id = some f) (hne : id ≠ f.cur) : f.cur ≠ f.root := by
 unfold AH.fam at hf
 split at hf
 ·rename_i d c l ro n0 hg
  cases hf
  exact fun e => hne e.symm
 ·rename_i r lo n hg
  obtain ⟨d, c, l, ro, n0, h1, h2⟩ := hw.ali _ _ _ _ hg
  rw [h1] at hf
  simp only [Option.some.injEq] at hf
  subst hf
  exact h2
 ·cases hf
theorem hr_store (hr : HR β h w) (hw : Wf h) {id off : Nat} {vs vs' : List Value} {h' : AH} {x : Bx} (hs : storeC h id off vs = some h') (hx : β id = some x) (hv : VRl β vs vs')
  (hwr : Wrote w w' x.g (x.s + (off - x.lo)) vs') : HR β h' w' ∧ Wf h' ∧ Evo β h w β h' w' := by
 unfold storeC at hs
 cases hf : h.fam id with
 | none => rw [hf] at hs; cases hs
 | some f =>
 rw [hf] at hs
 simp only at hs
 split at hs
 case isFalse => cases hs
 rename_i hc
 obtain ⟨hcur, hro, hlo, hn, _⟩ := hc
 obtain ⟨n0, hroot⟩ := fam_root hf
 rw [hroot] at hs
 simp only [Option.some.injEq] at hs
 subst hs
 have hlen : f.n = f.data.length := hw.curn _ _ hf hcur
 have hxlo : x.lo = f.lo := (hr.row _ _ _ hx hf).lo
 have hvl : vs.length = vs'.length := hv.1
 have hl' : off + vs.length ≤ f.data.length := by omega
 have hfam := fam_setRoot hroot (splice f.data off vs) f.cur (if f.cur = f.root then f.low else addT f.low h.next off) false h.next (min h.wr f.root)
 have hroots : ∀ id', id' < h.next → (⟨h.t.set f.root (.row (splice f.data off vs) f.cur (if f.cur = f.root then f.low else addT f.low h.next off) false n0), h.next, min h.wr f.root⟩ : AH).fam id' =
   (h.fam id').map fun f' => if f'.root = f.root then { f' with data := splice f.data off vs, cur := f.cur, low := if f.cur = f.root then f.low else addT f.low h.next off, ro := false } else f' := fun id' _ => hfam id'
 have hgne : ∀ {id' x' f'}, β id' = some x' → h.fam id' = some f' → f'.root ≠ f.root → x'.g ≠ x.g := by
  intro id' x' f' h1 h2 h3 h4
  rcases hr.disj _ _ _ _ h1 hx h4 with rfl | ⟨g1, g2, k1, k2, k3⟩
  ·rw [hf] at h2; cases h2; exact h3 rfl
  ·rw [h2] at k1; cases k1
   rw [hf] at k2; cases k2
   rcases k3 with k3 | k3
   ·exact h3 k3.1
   ·rw [hro] at k3; exact absurd k3.2 (by simp)
 refine ⟨⟨fun id' x' h1 => ⟨(hr.dom _ _ h1).1, by rw [hwr.size]; exact (hr.dom _ _ h1).2⟩, ?_, ?_, ?_, ?_⟩, ⟨?_, ?_, ?_, ?_, ?_, ?_⟩, ?_⟩
 ·-- rows
  intro id' x' g' h1 h2
  rw [hfam] at h2
  cases h3 : h.fam id' with
  | none => rw [h3] at h2; cases h2
  | some f' =>
  rw [h3] at h2
  simp only [Option.map_some, Option.some.injEq] at h2
  by_cases h4 : f'.root = f.root
  ·rw [if_pos h4] at h2
   subst h2
   obtain ⟨e1, e2, e3, e4⟩ := fam_same hf h3 h4.symm
   obtain ⟨r1, c, el, fz, r2, r3, r4, r5⟩ := hr.row _ _ _ h1 h3
   have r5 := r5 (by rw [e4]; exact hro)
   by_cases h5 : x'.g = x.g
   ·obtain ⟨c', w1, w2, w3⟩ := hwr.ex c el fz (by rw [← h5]; exact r2)
    refine ⟨r1, c', el, fz, by rw [h5]; exact w1, by rw [w2]; exact r3, fun p v a b d => ?_, fun _ => by rw [w2]; exact r5⟩
    simp only at a b d
    rw [splice_get _ _ _ hl'] at d
    by_cases h6 : id' = f.cur
    ·-- the name itself
     have : id' = id := by omega
     subst this
     rw [hx] at h1; cases h1
     rw [hf] at h3; cases h3
     simp only [Fam.rb, if_pos h6] at b
     by_cases h7 : off ≤ p ∧ p < off + vs.length
     ·rw [if_pos h7] at d
      have : p - off < vs'.length := by omega
      refine ⟨vs'[p - off], ?_, hv.2 _ _ _ d (List.getElem?_eq_getElem this)⟩
      rw [w3, if_pos (by omega)]
      rw [show x.s + (p - x.lo) - (x.s + (off - x.lo)) = p - off by omega]
      exact List.getElem?_eq_getElem this
     ·rw [if_neg h7] at d
      obtain ⟨v', q1, q2⟩ := r4 p v a (by simp only [Fam.rb, if_pos h6]; exact b) d
      refine ⟨v', ?_, q2⟩
      rw [w3, if_neg (by omega)]
      exact q1
    ·-- another name of the row
     have hst := ne_root_of_stale hw h3 (by rw [e2]; exact h6)
     rw [e2, h4] at hst
     simp only [Fam.rb, if_neg h6, if_neg hst] at b
     have hadd := addT_le (low := f.low) (s := h.next) (p := off) (id := id') (hr.dom _ _ h1).1
     have hp : p < off := by omega
     rw [if_neg (by omega)] at d
     obtain ⟨v', q1, q2⟩ := r4 p v a (by simp only [Fam.rb, e2, if_neg h6, e3]; omega) (by rw [e1]; exact d)
     refine ⟨v', ?_, q2⟩
     rw [w3, if_neg]
     ·exact q1
     ·rcases hr.disj _ _ _ _ h1 hx h5 with k0 | ⟨g1, g2, k1, k2, k3⟩
      ·exact absurd (k0.trans hcur) h6
      ·rcases k3 with ⟨_, k4⟩ | ⟨_, k4⟩
       ·omega
       ·rw [hf] at k2; cases k2; rw [hro] at k4; cases k4
   ·refine ⟨r1, c, el, fz, by rw [hwr.oth _ h5]; exact r2, r3, fun p v a b d => ?_, fun _ => r5⟩
    simp only at a b d
    by_cases h6 : id' = f.cur
    ·have : id' = id := by omega
     subst this
     rw [hx] at h1; cases h1
     exact absurd rfl h5
    ·have hst := ne_root_of_stale hw h3 (by rw [e2]; exact h6)
     rw [e2, h4] at hst
     simp only [Fam.rb, if_neg h6, if_neg hst] at b
     have hadd := addT_le (low := f.low) (s := h.next) (p := off) (id := id') (hr.dom _ _ h1).1
     rw [splice_get _ _ _ hl', if_neg (by omega)] at d
     exact r4 p v a (by simp only [Fam.rb, e2, if_neg h6, e3]; omega) (by rw [e1]; exact d)
  ·rw [if_neg h4] at h2
   subst h2
   exact (hr.row _ _ _ h1 h3).mono (.refl _) (hwr.oth _ (hgne h1 h3 h4))
 ·-- maps
  intro id' x' es ck h1 h2
  have h3 : id' ≠ f.root := by
   intro e
   subst e
   rw [Tr.get_set_eq] at h2
   cases h2
  rw [Tr.get_set_ne _ _ h3] at h2
  obtain ⟨es', e1, e2⟩ := hr.map _ _ _ _ h1 h2
  refine ⟨es', ?_, e2⟩
  rw [hwr.oth]
  ·exact e1
  ·intro h4
   rcases hr.disj _ _ _ _ h1 hx h4 with rfl | ⟨g1, g2, k1, k2, k3⟩
   ·exact fam_not_map hf h2
   ·exact fam_not_map k1 h2
 ·-- loops
  intro id' x' r h1 h2
  have h3 : id' ≠ f.root := by
   intro e
   subst e
   rw [Tr.get_set_eq] at h2
   cases h2
  rw [Tr.get_set_ne _ _ h3] at h2
  obtain ⟨r', e1, e2⟩ := hr.loop _ _ _ h1 h2
  refine ⟨r', ?_, e2⟩
  rw [hwr.oth]
  ·exact e1
  ·intro h4
   rcases hr.disj _ _ _ _ h1 hx h4 with rfl | ⟨g1, g2, k1, k2, k3⟩
   ·exact fam_not_loop hf h2
   ·exact fam_not_loop k1 h2
 ·-- apart
  intro id1 id2 x1 x2 h1 h2 h3
  rcases hr.disj _ _ _ _ h1 h2 h3 with k | ⟨g1, g2, k1, k2, k3⟩
  ·exact .inl k
  ·refine .inr ⟨_, _, by rw [hfam, k1]; rfl, by rw [hfam, k2]; rfl, ?_⟩
   rcases k3 with ⟨k3, k4⟩ | ⟨k3, k4⟩
   ·left
    refine ⟨?_, k4⟩
    by_cases m1 : g1.root = f.root <;> by_cases m2 : g2.root = f.root <;> simp [m1, m2] <;> omega
   ·right
    have n1 : g1.root ≠ f.root := fun e => by have := (fam_same hf k1 e.symm).2.2.2; rw [k3, hro] at this; cases this
    have n2 : g2.root ≠ f.root := fun e => by have := (fam_same hf k2 e.symm).2.2.2; rw [k4, hro] at this; cases this
    simp [n1, n2, k3, k4]
 ·intro id' o h1
  by_cases h2 : id' = f.root
  ·subst h2; exact hw.lt _ _ hroot
  ·exact hw.lt _ _ (by simpa [Tr.get_set_ne _ _ h2] using h1)
 ·intro id' g h1
  rw [hfam] at h1
  cases h3 : h.fam id' with
  | none => rw [h3] at h1; cases h1
  | some f' =>
   rw [h3] at h1
   simp only [Option.map_some, Option.some.injEq] at h1
   have := hw.lon _ _ h3
   split at h1 <;> (subst h1; exact this)
 ·intro id' g h1 h2
  rw [hfam] at h1
  cases h3 : h.fam id' with
  | none => rw [h3] at h1; cases h1
  | some f' =>
   rw [h3] at h1
   simp only [Option.map_some, Option.some.injEq] at h1
   split at h1
   ·rename_i h4
    subst h1
    obtain ⟨e1, e2, e3, e4⟩ := fam_same hf h3 h4.symm
    simp only at h2 ⊢
    rw [splice_length _ _ _ hl', ← e1]
    exact hw.curn _ _ h3 (by rw [e2]; exact h2)
   ·subst h1; exact hw.curn _ _ h3 h2
 ·intro id' g h1 h2
  rw [hfam] at h1
  cases h3 : h.fam id' with
  | none => rw [h3] at h1; cases h1
  | some f' =>
   rw [h3] at h1
   simp only [Option.map_some, Option.some.injEq] at h1
   split at h1
   ·rename_i h4
    subst h1
    obtain ⟨e1, e2, e3, e4⟩ := fam_same hf h3 h4.symm
    simp only at h2 ⊢
    have := hw.stale _ _ h3 (by rw [e2]; exact h2)
    rw [splice_length _ _ _ hl']
    rw [e1, e3] at this
    have hid' : id' < h.next := by
     unfold AH.fam at h3
     cases hg : h.t.get id' with
     | none => rw [hg] at h3; cases h3
     | some o => exact hw.lt _ _ hg
    have hadd := addT_le (low := f.low) (s := h.next) (p := off) (id := id') hid'
    split <;> omega
   ·subst h1; exact hw.stale _ _ h3 h2
 ·intro id' g h1
  rw [hfam] at h1
  cases h3 : h.fam id' with
  | none => rw [h3] at h1; cases h1
  | some f' =>
   rw [h3] at h1
   simp only [Option.map_some, Option.some.injEq] at h1
   split at h1
   ·subst h1; exact (hw.cur id f hf : f.cur < h.next)
   ·subst h1; exact hw.cur _ _ h3
 ·intro id' r lo n h1
  have h2 : id' ≠ f.root := fun e => by subst e; rw [Tr.get_set_eq] at h1; cases h1
  rw [Tr.get_set_ne _ _ h2] at h1
  obtain ⟨d, c, l, ro, m0, k1, k2⟩ := hw.ali _ _ _ _ h1
  by_cases h3 : r = f.root
  ·subst h3
   rw [k1] at hroot
   cases hroot
   exact ⟨_, _, _, _, _, Tr.get_set_eq _ _ _, k2⟩
  ·exact ⟨d, c, l, ro, m0, by simpa [Tr.get_set_ne _ _ h3] using k1, k2⟩
 ·exact {
   sub := .refl _
   new := fun _ _ a b => by rw [a] at b; cases b
   all := fun id a b => absurd b (Nat.not_lt.2 a)
   blk := fun _ _ a b => by rw [a] at b; cases b
   size := Nat.le_of_eq hwr.size.symm
   os := hwr.os
   tape := hwr.tape
   output := hwr.output
   frame := fun b hb => by
    by_cases h1 : b = x.g
    ·exact .inr ⟨id, x, hx, h1.symm, by rw [rootOf_eq hf]; exact Nat.min_le_right _ _, by unfold roOf; rw [hf]; exact hro⟩
    ·exact .inl (hwr.oth _ h1)
   next := Nat.le_refl _
   wr := Nat.min_le_left _ _
   root := fun id' _ => by
    unfold rootOf
    rw [hfam]
    cases h3 : h.fam id' with
    | none => rfl
    | some f' => by_cases m : f'.root = f.root <;> simp [m]
   ro := fun id' _ => by
    unfold roOf
    rw [hfam]
    cases h3 : h.fam id' with
    | none => rfl
    | some f' =>
     by_cases m : f'.root = f.root
     ·have := (fam_same hf h3 m.symm).2.2.2
      simp [m, this, hro]
     ·simp [m]
   objs := fun id' _ h2 => Tr.get_set_ne _ _ (by simp only at h2; omega) }
end
end Go.AM
namespace Go.AM
section
variable {β : Ren} {h : AH} {w w' : World}
theorem hr_alias (hr : HR β h w) (hw : Wf h) {id off pos : Nat} {news : List Value} {f : Fam} {n0 : Nat} {x y : Bx} (hf : h.fam id = some f) (hro : f.ro = false) (hx : β id = some x)
  (hroot : h.t.get f.root = some (.row f.data f.cur f.low f.ro n0)) (hlo : f.lo ≤ off) (hop : off ≤ pos) (hpos : pos ≤ f.rb id)
  (hylo : y.lo = off)
  (hy : ∃ (c : Array Value) (el : TypeId) (fz : Nat × Nat), w'.heap[y.g]? = some (.cells c el fz) ∧ c.size = y.z ∧ NoFrz fz c.size ∧ y.s + (pos + news.length - off) ≤ y.z ∧
   ∀ (p : Nat) (v : Value), off ≤ p → p < pos + news.length → (f.data.take pos ++ news)[p]? = some v → ∃ v', c[y.s + (p - off)]? = some v' ∧ VR β v v')
  (hblk : (w.heap.size ≤ y.g ∧ (∀ b, b < w.heap.size → w'.heap[b]? = w.heap[b]?)) ∨
   (y.g = x.g ∧ y.s + x.lo = x.s + off ∧ ∃ vs, Wrote w w' x.g (x.s + (pos - x.lo)) vs))
  (hyg : y.g < w'.heap.size) (hsz : w.heap.size ≤ w'.heap.size) (hos : w'.os = w.os) (htp : w'.tape = w.tape) (hou : w'.output = w.output) :
  HR (upd β h.next y) { t := (h.t.set f.root (.row (f.data.take pos ++ news) h.next (if pos < f.data.length then addT f.low h.next pos else f.low) false n0)).set h.next (.alias f.root off (pos + news.length)), next := h.next + 1, wr := min h.wr f.root } w' ∧
  Wf { t := (h.t.set f.root (.row (f.data.take pos ++ news) h.next (if pos < f.data.length then addT f.low h.next pos else f.low) false n0)).set h.next (.alias f.root off (pos + news.length)), next := h.next + 1, wr := min h.wr f.root } ∧
  Evo β h w (upd β h.next y) { t := (h.t.set f.root (.row (f.data.take pos ++ news) h.next (if pos < f.data.length then addT f.low h.next pos else f.low) false n0)).set h.next (.alias f.root off (pos + news.length)), next := h.next + 1, wr := min h.wr f.root } w' := by
 have hrt : f.root < h.next := hw.lt _ _ hroot
 have hidl : id < h.next := fam_lt hw hf
 have hxlo : x.lo = f.lo := (hr.row _ _ _ hx hf).lo
 have hnone : β h.next = none := hr.none_next (Nat.le_refl _)
 have hsub : Sub β (upd β h.next y) := sub_upd _ hnone
 have hold : ∀ {i z}, upd β h.next y i = some z → (i = h.next ∧ z = y) ∨ (i < h.next ∧ β i = some z) := by
  intro i z hz
  by_cases h1 : i = h.next
  ·subst h1; rw [upd_same] at hz; cases hz; exact .inl ⟨rfl, rfl⟩
  ·rw [upd_ne _ _ h1] at hz; exact .inr ⟨(hr.dom _ _ hz).1, hz⟩
 have hN : pos ≤ f.data.length := by
  unfold Fam.rb at hpos
  split at hpos
  ·have := hw.curn _ _ hf ‹_›; omega
  ·have := hw.stale _ _ hf ‹_›; omega
 have hlen : (f.data.take pos ++ news).length = pos + news.length := by simp; omega
 generalize hlow : (if pos < f.data.length then addT f.low h.next pos else f.low) = low'
 generalize hdat : f.data.take pos ++ news = dat
 rw [hdat] at hlen hy
 have hget : ∀ p, p < pos → dat[p]? = f.data[p]? := by
  intro p hp
  rw [← hdat, List.getElem?_append_left (by simp; omega), List.getElem?_take_of_lt hp]
 have hget' : ∀ {i : Nat} {o : AObj}, ((h.t.set f.root (.row dat h.next low' false n0)).set h.next (.alias f.root off (pos + news.length))).get i = some o →
   (i = h.next ∧ o = .alias f.root off (pos + news.length)) ∨ (i = f.root ∧ o = .row dat h.next low' false n0) ∨ (i < h.next ∧ i ≠ f.root ∧ h.t.get i = some o) := by
  intro i o ho
  by_cases h1 : i = h.next
  ·subst h1; rw [Tr.get_set_eq] at ho; cases ho; exact .inl ⟨rfl, rfl⟩
  ·rw [Tr.get_set_ne _ _ h1] at ho
   by_cases h2 : i = f.root
   ·subst h2; rw [Tr.get_set_eq] at ho; cases ho; exact .inr (.inl ⟨rfl, rfl⟩)
   ·rw [Tr.get_set_ne _ _ h2] at ho; exact .inr (.inr ⟨hw.lt _ _ ho, h2, ho⟩)
 have hfamN : (⟨(h.t.set f.root (.row dat h.next low' false n0)).set h.next (.alias f.root off (pos + news.length)), h.next + 1, min h.wr f.root⟩ : AH).fam h.next =
   some ⟨f.root, off, pos + news.length, dat, h.next, low', false⟩ := by
  unfold AH.fam
  simp only [Tr.get_set_eq]
  rw [Tr.get_set_ne _ _ (by omega), Tr.get_set_eq]
 have hfam : ∀ {i}, i < h.next → (⟨(h.t.set f.root (.row dat h.next low' false n0)).set h.next (.alias f.root off (pos + news.length)), h.next + 1, min h.wr f.root⟩ : AH).fam i =
   (h.fam i).map fun f' => if f'.root = f.root then { f' with data := dat, cur := h.next, low := low', ro := false } else f' := by
  intro i hi
  rw [← fam_setRoot hroot dat h.next low' false h.next (min h.wr f.root) i]
  have hw2 : ∀ i' r lo n, (h.t.set f.root (.row dat h.next low' false n0)).get i' = some (.alias r lo n) → r < h.next := by
   intro i' r lo n hg
   by_cases h1 : i' = f.root
   ·subst h1; rw [Tr.get_set_eq] at hg; cases hg
   ·rw [Tr.get_set_ne _ _ h1] at hg
    obtain ⟨d, c, l, ro, m0, k1, _⟩ := hw.ali _ _ _ _ hg
    exact hw.lt _ _ k1
  unfold AH.fam
  simp only
  rw [Tr.get_set_ne _ _ (by omega)]
  cases hg : (h.t.set f.root (.row dat h.next low' false n0)).get i with
  | none => rfl
  | some o =>
   cases o with
   | row => rfl
   | map => rfl
   | loop => rfl
   | alias r lo n =>
    simp only
    have := hw2 _ _ _ _ hg
    rw [Tr.get_set_ne _ _ (by omega)]
 -- what an old name of the row reads lies below 'pos'
 have hbelow : ∀ {i f'}, h.fam i = some f' → f'.root = f.root → min (lowAt low' i) f'.n ≤ pos ∧ (∀ p, p < min (lowAt low' i) f'.n → p < f'.rb i) := by
  intro i f' h1 h2
  obtain ⟨e1, e2, e3, e4⟩ := fam_same hf h1 h2.symm
  have hi : i < h.next := by
   have h1' := h1
   unfold AH.fam at h1'
   cases hg : h.t.get i with
   | none => rw [hg] at h1'; cases h1'
   | some o => exact hw.lt _ _ hg
  have hadd := addT_le (low := f.low) (s := h.next) (p := pos) (id := i) hi
  have hlw : lowAt low' i ≤ lowAt f.low i ∧ (pos < f.data.length → lowAt low' i ≤ pos) := by
   rw [← hlow]
   split
   ·exact ⟨hadd.2, fun _ => hadd.1⟩
   ·exact ⟨Nat.le_refl _, fun q => absurd q ‹_›⟩
  have hlw2 := hlw.2
  by_cases hc : i = f'.cur
  ·have := hw.curn _ _ h1 hc
   refine ⟨?_, fun p hp => by simp only [Fam.rb, if_pos hc]; omega⟩
   rw [e1] at this
   by_cases hq : pos < f.data.length
   ·have := hlw2 hq; omega
   ·omega
  ·have := hw.stale _ _ h1 hc
   rw [e1, e3] at this
   refine ⟨?_, fun p hp => ?_⟩
   ·by_cases hq : pos < f.data.length
    ·have := hlw2 hq; omega
    ·omega
   ·simp only [Fam.rb, if_neg hc, e3]
    omega
 have hgne : ∀ {i z f'}, β i = some z → h.fam i = some f' → f'.root ≠ f.root → z.g ≠ x.g := by
  intro i z f' h1 h2 h3 h4
  rcases hr.disj _ _ _ _ h1 hx h4 with rfl | ⟨g1, g2, k1, k2, k3⟩
  ·rw [hf] at h2; cases h2; exact h3 rfl
  ·rw [h2] at k1; cases k1
   rw [hf] at k2; cases k2
   rcases k3 with k3 | k3
   ·exact h3 k3.1
   ·rw [hro] at k3; exact absurd k3.2 (by simp)
 have hkeep : ∀ {b}, b < w.heap.size → b ≠ x.g → w'.heap[b]? = w.heap[b]? := by
  intro b hb hne
  rcases hblk with ⟨_, k⟩ | ⟨_, _, vs, k⟩
  ·exact k b hb
  ·exact k.oth _ hne
 refine ⟨⟨?_, ?_, ?_, ?_, ?_⟩, ⟨?_, ?_, ?_, ?_, ?_, ?_⟩, ?_⟩
 ·intro i z hz
  rcases hold hz with ⟨rfl, rfl⟩ | ⟨h1, h2⟩
  ·exact ⟨Nat.lt_succ_self _, hyg⟩
  ·exact ⟨Nat.lt_succ_of_lt h1, Nat.lt_of_lt_of_le (hr.dom _ _ h2).2 hsz⟩
 ·intro i z g hz hg
  rcases hold hz with ⟨rfl, rfl⟩ | ⟨h1, h2⟩
  ·rw [hfamN] at hg
   cases hg
   obtain ⟨c, el, fz, k1, k2, k3, k4, k5⟩ := hy
   refine ⟨hylo, c, el, fz, k1, k2, fun p v a b d => ?_, fun _ => ⟨k3, by simpa using k4⟩⟩
   simp only [Fam.rb, if_true] at a b d
   obtain ⟨v', m1, m2⟩ := k5 p v a b d
   exact ⟨v', by rw [hylo]; exact m1, m2.mono hsub⟩
  ·rw [hfam h1] at hg
   cases h3 : h.fam i with
   | none => rw [h3] at hg; cases hg
   | some f' =>
   rw [h3] at hg
   simp only [Option.map_some, Option.some.injEq] at hg
   obtain ⟨r1, c, el, fz, r2, r3, r4, r5⟩ := hr.row _ _ _ h2 h3
   by_cases h4 : f'.root = f.root
   ·rw [if_pos h4] at hg
    subst hg
    obtain ⟨e1, e2, e3, e4⟩ := fam_same hf h3 h4.symm
    have r5 := r5 (by rw [e4]; exact hro)
    obtain ⟨b1, b2⟩ := hbelow h3 h4
    have hine : i ≠ h.next := by omega
    -- old cells below pos
    have hcell : ∃ c', w'.heap[z.g]? = some (.cells c' el fz) ∧ c'.size = c.size ∧ ∀ p, z.lo ≤ p → p < pos → c'[z.s + (p - z.lo)]? = c[z.s + (p - z.lo)]? := by
     rcases hblk with ⟨_, k⟩ | ⟨k1, k2, vs, k⟩
     ·exact ⟨c, (k _ (hr.dom _ _ h2).2).trans r2, rfl, fun _ _ _ => rfl⟩
     ·by_cases h5 : z.g = x.g
      ·obtain ⟨c', q1, q2, q3⟩ := k.ex c el fz (by rw [← h5]; exact r2)
       refine ⟨c', by rw [h5]; exact q1, q2, fun p hp1 hp2 => ?_⟩
       rw [q3, if_neg]
       rcases hr.disj _ _ _ _ h2 hx h5 with rfl | ⟨g1, g2, m1, m2, m3⟩
       ·rw [hx] at h2; cases h2; omega
       ·rcases m3 with ⟨_, m4⟩ | ⟨_, m4⟩
        ·omega
        ·rw [hf] at m2; cases m2; rw [hro] at m4; cases m4
      ·exact ⟨c, (k.oth _ h5).trans r2, rfl, fun _ _ _ => rfl⟩
    obtain ⟨c', q1, q2, q3⟩ := hcell
    refine ⟨r1, c', el, fz, q1, by rw [q2]; exact r3, fun p v a b d => ?_, fun _ => by rw [q2]; exact r5⟩
    simp only [Fam.rb, if_neg hine] at a b d
    have hp : p < pos := by omega
    rw [hget p hp] at d
    obtain ⟨v', m1, m2⟩ := r4 p v a (b2 p b) (by rw [e1]; exact d)
    exact ⟨v', by rw [q3 p (by omega) hp]; exact m1, m2.mono hsub⟩
   ·rw [if_neg h4] at hg
    subst hg
    exact (hr.row _ _ _ h2 h3).mono hsub (hkeep (hr.dom _ _ h2).2 (hgne h2 h3 h4))
 ·intro i z es ck hz hm
  rcases hget' hm with ⟨rfl, e⟩ | ⟨rfl, e⟩ | ⟨k1, k2, k3⟩
  ·cases e
  ·cases e
  ·rcases hold hz with ⟨rfl, _⟩ | ⟨_, h2⟩
   ·omega
   ·obtain ⟨es', e1, e2⟩ := hr.map _ _ _ _ h2 k3
    refine ⟨es', ?_, e2.mono hsub⟩
    rw [hkeep (hr.dom _ _ h2).2]
    ·exact e1
    ·intro h4
     rcases hr.disj _ _ _ _ h2 hx h4 with rfl | ⟨g1, g2, m1, m2, m3⟩
     ·exact fam_not_map hf k3
     ·exact fam_not_map m1 k3
 ·intro i z r hz hm
  rcases hget' hm with ⟨rfl, e⟩ | ⟨rfl, e⟩ | ⟨k1, k2, k3⟩
  ·cases e
  ·cases e
  ·rcases hold hz with ⟨rfl, _⟩ | ⟨_, h2⟩
   ·omega
   ·obtain ⟨r', e1, e2⟩ := hr.loop _ _ _ h2 k3
    refine ⟨r', ?_, e2.mono hsub⟩
    rw [hkeep (hr.dom _ _ h2).2]
    ·exact e1
    ·intro h4
     rcases hr.disj _ _ _ _ h2 hx h4 with rfl | ⟨g1, g2, m1, m2, m3⟩
     ·exact fam_not_loop hf k3
     ·exact fam_not_loop m1 k3
 ·intro i j z z' hz hz' hg
  have hcross : ∀ {i z}, i < h.next → β i = some z → z.g = y.g →
    ∃ f1 f2, (⟨(h.t.set f.root (.row dat h.next low' false n0)).set h.next (.alias f.root off (pos + news.length)), h.next + 1, min h.wr f.root⟩ : AH).fam i = some f1 ∧
     (⟨(h.t.set f.root (.row dat h.next low' false n0)).set h.next (.alias f.root off (pos + news.length)), h.next + 1, min h.wr f.root⟩ : AH).fam h.next = some f2 ∧ f1.root = f2.root ∧ z.s + y.lo = y.s + z.lo := by
   intro i z hi hb hgy
   rcases hblk with ⟨k, _⟩ | ⟨k1, k2, vs, k⟩
   ·have := (hr.dom _ _ hb).2; omega
   ·rcases hr.disj _ _ _ _ hb hx (hgy.trans k1) with rfl | ⟨g1, g2, m1, m2, m3⟩
    ·rw [hx] at hb; cases hb
     exact ⟨_, _, by rw [hfam hi, hf]; rfl, hfamN, by simp, by omega⟩
    ·rw [hf] at m2; cases m2
     rcases m3 with ⟨m3, m4⟩ | ⟨_, m4⟩
     ·exact ⟨_, _, by rw [hfam hi, m1]; rfl, hfamN, by simp [m3], by omega⟩
     ·rw [hro] at m4; cases m4
  rcases hold hz with ⟨rfl, rfl⟩ | ⟨h1, h2⟩
  ·rcases hold hz' with ⟨rfl, rfl⟩ | ⟨h3, h4⟩
   ·exact .inl rfl
   ·obtain ⟨f1, f2, k1, k2, k3, k4⟩ := hcross h3 h4 hg.symm
    exact .inr ⟨f2, f1, k2, k1, .inl ⟨k3.symm, by omega⟩⟩
  ·rcases hold hz' with ⟨rfl, rfl⟩ | ⟨h3, h4⟩
   ·obtain ⟨f1, f2, k1, k2, k3, k4⟩ := hcross h1 h2 hg
    exact .inr ⟨f1, f2, k1, k2, .inl ⟨k3, by omega⟩⟩
   ·rcases hr.disj _ _ _ _ h2 h4 hg with k | ⟨g1, g2, k1, k2, k3⟩
    ·exact .inl k
    ·refine .inr ⟨_, _, by rw [hfam h1, k1]; rfl, by rw [hfam h3, k2]; rfl, ?_⟩
     rcases k3 with ⟨k3, k4⟩ | ⟨k3, k4⟩
     ·left
      refine ⟨?_, k4⟩
      by_cases m1 : g1.root = f.root <;> by_cases m2 : g2.root = f.root <;> simp [m1, m2] <;> omega
     ·right
      have n1 : g1.root ≠ f.root := fun e => by have := (fam_same hf k1 e.symm).2.2.2; rw [k3, hro] at this; cases this
      have n2 : g2.root ≠ f.root := fun e => by have := (fam_same hf k2 e.symm).2.2.2; rw [k4, hro] at this; cases this
      simp [n1, n2, k3, k4]
 ·intro i o ho
  rcases hget' ho with ⟨rfl, _⟩ | ⟨rfl, _⟩ | ⟨k, _, _⟩
  ·exact Nat.lt_succ_self _
  ·exact Nat.lt_succ_of_lt hrt
  ·exact Nat.lt_succ_of_lt k
 all_goals try
  have hfam2 : ∀ {i g}, (⟨(h.t.set f.root (.row dat h.next low' false n0)).set h.next (.alias f.root off (pos + news.length)), h.next + 1, min h.wr f.root⟩ : AH).fam i = some g →
    (i = h.next ∧ g = ⟨f.root, off, pos + news.length, dat, h.next, low', false⟩) ∨ (i < h.next ∧ ∃ f', h.fam i = some f' ∧ ((f'.root = f.root ∧ g = { f' with data := dat, cur := h.next, low := low', ro := false }) ∨ (f'.root ≠ f.root ∧ g = f'))) := by
   intro i g hg
   by_cases h1 : i = h.next
   ·subst h1; rw [hfamN] at hg; cases hg; exact .inl ⟨rfl, rfl⟩
   ·have hl : i < h.next := by
     unfold AH.fam at hg
     cases ho : ((h.t.set f.root (.row dat h.next low' false n0)).set h.next (.alias f.root off (pos + news.length))).get i with
     | none => simp only [ho] at hg; cases hg
     | some o =>
      rcases hget' ho with ⟨e, _⟩ | ⟨e, _⟩ | ⟨k, _, _⟩
      ·exact absurd e h1
      ·omega
      ·exact k
    rw [hfam hl] at hg
    cases h3 : h.fam i with
    | none => rw [h3] at hg; cases hg
    | some f' =>
     rw [h3] at hg
     simp only [Option.map_some, Option.some.injEq] at hg
     refine .inr ⟨hl, f', rfl, ?_⟩
     by_cases h4 : f'.root = f.root
     ·rw [if_pos h4] at hg; exact .inl ⟨h4, hg.symm⟩
     ·rw [if_neg h4] at hg; exact .inr ⟨h4, hg.symm⟩
 ·intro i g hg
  rcases hfam2 hg with ⟨rfl, rfl⟩ | ⟨_, f', h3, (⟨_, rfl⟩ | ⟨_, rfl⟩)⟩
  ·simp only; omega
  ·exact (hw.lon i f' h3 : f'.lo ≤ f'.n)
  ·exact hw.lon _ _ h3
 ·intro i g hg hc
  rcases hfam2 hg with ⟨rfl, rfl⟩ | ⟨hl, f', h3, (⟨_, rfl⟩ | ⟨_, rfl⟩)⟩
  ·exact hlen.symm
  ·simp only at hc; omega
  ·exact hw.curn _ _ h3 hc
 ·intro i g hg hc
  rcases hfam2 hg with ⟨rfl, rfl⟩ | ⟨hl, f', h3, (⟨h4, rfl⟩ | ⟨_, rfl⟩)⟩
  ·exact absurd rfl hc
  ·have := (hbelow h3 h4).1
   simp only; omega
  ·exact hw.stale _ _ h3 hc
 ·intro i g hg
  rcases hfam2 hg with ⟨rfl, rfl⟩ | ⟨hl, f', h3, (⟨h4, rfl⟩ | ⟨_, rfl⟩)⟩
  ·exact Nat.lt_succ_self _
  ·exact Nat.lt_succ_self _
  ·exact Nat.lt_succ_of_lt (hw.cur _ _ h3)
 ·intro i r lo n hi
  have hfr : ((h.t.set f.root (.row dat h.next low' false n0)).set h.next (.alias f.root off (pos + news.length))).get f.root = some (.row dat h.next low' false n0) := by
   rw [Tr.get_set_ne _ _ (by omega), Tr.get_set_eq]
  rcases hget' hi with ⟨rfl, e⟩ | ⟨rfl, e⟩ | ⟨k1, k2, k3⟩
  ·cases e
   exact ⟨_, _, _, _, _, hfr, by omega⟩
  ·cases e
  ·obtain ⟨d, c, l, ro, m0, q1, q2⟩ := hw.ali _ _ _ _ k3
   by_cases h3 : r = f.root
   ·subst h3
    exact ⟨_, _, _, _, _, hfr, by omega⟩
   ·have := hw.lt _ _ q1
    exact ⟨d, c, l, ro, m0, by rw [Tr.get_set_ne _ _ (by omega), Tr.get_set_ne _ _ h3]; exact q1, q2⟩
 ·exact {
   sub := hsub
   new := fun i z a b => by
    rcases hold a with ⟨rfl, _⟩ | ⟨_, h2⟩
    ·exact Nat.le_refl _
    ·rw [b] at h2; cases h2
   all := fun i a b => by
    have : i = h.next := by simp only at b; omega
    subst this
    rw [upd_same]; rfl
   blk := fun i z a b => by
    rcases hold a with ⟨rfl, rfl⟩ | ⟨_, h2⟩
    ·rcases hblk with ⟨k, _⟩ | ⟨k1, k2, vs, k⟩
     ·exact .inl k
     ·exact .inr ⟨id, x, hx, k1.symm, by rw [rootOf_eq hf]; exact Nat.min_le_right _ _, by unfold roOf; rw [hf]; exact hro⟩
    ·rw [b] at h2; cases h2
   size := hsz
   os := hos
   tape := htp
   output := hou
   frame := fun b hb => by
    rcases hblk with ⟨_, k⟩ | ⟨k1, k2, vs, k⟩
    ·exact .inl (k b hb)
    ·by_cases h1 : b = x.g
     ·exact .inr ⟨id, x, hx, h1.symm, by rw [rootOf_eq hf]; exact Nat.min_le_right _ _, by unfold roOf; rw [hf]; exact hro⟩
     ·exact .inl (k.oth _ h1)
   next := Nat.le_succ _
   wr := Nat.min_le_left _ _
   root := fun i hi => by
    unfold rootOf
    rw [hfam hi]
    cases h3 : h.fam i with
    | none => rfl
    | some f' => by_cases m : f'.root = f.root <;> simp [m]
   ro := fun i hi => by
    unfold roOf
    rw [hfam hi]
    cases h3 : h.fam i with
    | none => rfl
    | some f' =>
     by_cases m : f'.root = f.root
     ·have := (fam_same hf h3 m.symm).2.2.2
      simp [m, this, hro]
     ·simp [m]
   objs := fun i hi h2 => by
    simp only at h2
    rw [Tr.get_set_ne _ _ (by omega), Tr.get_set_ne _ _ (by omega)] }
def AObj.flat : AObj → Bool
 | .map .. | .loop _ => true
 | _ => false
theorem fam_flat {h : AH} {id : Nat} {o : AObj} (ho : h.t.get id = some o) (hf : o.flat = true) : h.fam id = none := by
 unfold AH.fam
 rw [ho]
 cases o <;> first | rfl | cases hf
theorem hr_setObj (hr : HR β h w) (hw : Wf h) {id : Nat} {x : Bx} {o1 o2 : AObj} (hx : β id = some x) (hm : h.t.get id = some o1) (hf1 : o1.flat = true) (hf2 : o2.flat = true)
  (hmap : ∀ es ck, o2 = .map es ck → ∃ es' : Array MapEntry, w'.heap[x.g]? = some (.map es' ck) ∧ EsR β es es'.toList)
  (hloop : ∀ r, o2 = .loop r → ∃ r', w'.heap[x.g]? = some (.loop r') ∧ LoopR β r r')
  (hw2 : ∀ b, b ≠ x.g → w'.heap[b]? = w.heap[b]?) (hsz : w'.heap.size = w.heap.size) (hos : w'.os = w.os) (htp : w'.tape = w.tape) (hou : w'.output = w.output) :
  HR β { h with t := h.t.set id o2, wr := min h.wr id } w' ∧ Wf { h with t := h.t.set id o2, wr := min h.wr id } ∧
  Evo β h w β { h with t := h.t.set id o2, wr := min h.wr id } w' := by
 have hn := fam_flat hm hf1
 have hfam : ∀ i, ({ h with t := h.t.set id o2, wr := min h.wr id } : AH).fam i = h.fam i := by
  intro i
  by_cases h1 : i = id
  ·subst h1
   rw [hn]
   exact fam_flat (Tr.get_set_eq _ _ _) hf2
  ·unfold AH.fam
   simp only
   rw [Tr.get_set_ne _ _ h1]
   cases hg : h.t.get i with
   | none => rfl
   | some o =>
    cases o with
    | row => rfl
    | map => rfl
    | loop => rfl
    | alias r lo n =>
     simp only
     obtain ⟨d, c, l, ro, n0, k, _⟩ := hw.ali _ _ _ _ hg
     have : r ≠ id := fun e => by rw [e, hm] at k; cases k; cases hf1
     rw [Tr.get_set_ne _ _ this]
 have hne : ∀ {i z f}, β i = some z → h.fam i = some f → z.g ≠ x.g := by
  intro i z f h1 h2 h3
  rcases hr.disj _ _ _ _ h1 hx h3 with rfl | ⟨g1, g2, k1, k2, _⟩
  ·rw [hn] at h2; cases h2
  ·rw [hn] at k2; cases k2
 have hne2 : ∀ {i z}, β i = some z → i ≠ id → z.g ≠ x.g := by
  intro i z h1 h2 h3
  rcases hr.disj _ _ _ _ h1 hx h3 with k | ⟨g1, g2, k1, k2, _⟩
  ·exact h2 k
  ·rw [hn] at k2; cases k2
 refine ⟨⟨fun i z a => ⟨(hr.dom _ _ a).1, by rw [hsz]; exact (hr.dom _ _ a).2⟩, ?_, ?_, ?_, ?_⟩, ⟨?_, ?_, ?_, ?_, ?_, ?_⟩, ?_⟩
 ·intro i z f a b
  rw [hfam] at b
  exact (hr.row _ _ _ a b).mono (.refl _) (hw2 _ (hne a b))
 ·intro i z es3 ck3 a b
  by_cases h1 : i = id
  ·subst h1
   rw [Tr.get_set_eq] at b
   rw [hx] at a
   cases a; cases b
   exact hmap _ _ rfl
  ·rw [Tr.get_set_ne _ _ h1] at b
   obtain ⟨es', e1, e2⟩ := hr.map _ _ _ _ a b
   exact ⟨es', by rw [hw2 _ (hne2 a h1)]; exact e1, e2⟩
 ·intro i z r a b
  by_cases h1 : i = id
  ·subst h1
   rw [Tr.get_set_eq] at b
   rw [hx] at a
   cases a; cases b
   exact hloop _ rfl
  ·rw [Tr.get_set_ne _ _ h1] at b
   obtain ⟨r', e1, e2⟩ := hr.loop _ _ _ a b
   exact ⟨r', by rw [hw2 _ (hne2 a h1)]; exact e1, e2⟩
 ·intro i j z z' a b c
  rcases hr.disj _ _ _ _ a b c with k | ⟨g1, g2, k1, k2, k3⟩
  ·exact .inl k
  ·exact .inr ⟨g1, g2, by rw [hfam]; exact k1, by rw [hfam]; exact k2, k3⟩
 ·intro i o ho
  by_cases h1 : i = id
  ·subst h1; exact hw.lt _ _ hm
  ·exact hw.lt _ _ (by simpa [Tr.get_set_ne _ _ h1] using ho)
 ·intro i f a; rw [hfam] at a; exact hw.lon _ _ a
 ·intro i f a; rw [hfam] at a; exact hw.curn _ _ a
 ·intro i f a; rw [hfam] at a; exact hw.stale _ _ a
 ·intro i f a; rw [hfam] at a; exact hw.cur _ _ a
 ·intro i r lo n a
  by_cases h1 : i = id
  ·subst h1; rw [Tr.get_set_eq] at a; cases a; cases hf2
  ·rw [Tr.get_set_ne _ _ h1] at a
   obtain ⟨d, c, l, ro, n0, k, k2⟩ := hw.ali _ _ _ _ a
   have : r ≠ id := fun e => by rw [e, hm] at k; cases k; cases hf1
   exact ⟨d, c, l, ro, n0, by rw [Tr.get_set_ne _ _ this]; exact k, k2⟩
 ·have hro : roOf h id = false := by unfold roOf; rw [hn]
  have hrt : rootOf h id = id := by unfold rootOf; rw [hn]
  exact {
   sub := .refl _
   new := fun _ _ a b => by rw [a] at b; cases b
   all := fun id a b => absurd b (Nat.not_lt.2 a)
   blk := fun _ _ a b => by rw [a] at b; cases b
   size := Nat.le_of_eq hsz.symm
   os := hos
   tape := htp
   output := hou
   frame := fun b hb => by
    by_cases h1 : b = x.g
    ·exact .inr ⟨id, x, hx, h1.symm, by rw [hrt]; exact Nat.min_le_right _ _, hro⟩
    ·exact .inl (hw2 _ h1)
   next := Nat.le_refl _
   wr := Nat.min_le_left _ _
   root := fun i _ => by unfold rootOf; rw [hfam]
   ro := fun i _ => by unfold roOf; rw [hfam]
   objs := fun i _ h2 => Tr.get_set_ne _ _ (by simp only at h2; omega) }
theorem hr_setMap (hr : HR β h w) (hw : Wf h) {id : Nat} {x : Bx} {es es2 : List MapEntry} {ck ck2 : Nat} {es2' : Array MapEntry} (hx : β id = some x) (hm : h.t.get id = some (.map es ck)) (he : EsR β es2 es2'.toList)
  (hw1 : w'.heap[x.g]? = some (.map es2' ck2)) (hw2 : ∀ b, b ≠ x.g → w'.heap[b]? = w.heap[b]?) (hsz : w'.heap.size = w.heap.size) (hos : w'.os = w.os) (htp : w'.tape = w.tape) (hou : w'.output = w.output) :
  HR β { h with t := h.t.set id (.map es2 ck2), wr := min h.wr id } w' ∧ Wf { h with t := h.t.set id (.map es2 ck2), wr := min h.wr id } ∧
  Evo β h w β { h with t := h.t.set id (.map es2 ck2), wr := min h.wr id } w' :=
 hr_setObj hr hw hx hm rfl rfl (fun _ _ e => by cases e; exact ⟨_, hw1, he⟩) (fun _ e => by cases e) hw2 hsz hos htp hou
theorem hr_load (P : Program) (hr : HR β h w) (hw : Wf h) {id off k : Nat} {cs : List Value} {x : Bx} (hl : loadC h id off k = some cs) (hx : β id = some x) :
  x.lo ≤ off ∧ cs.length = k ∧ ∃ cs', VRl β cs cs' ∧ (loadCells (x.at_ off) k).run P w = .ok ⟨cs'⟩ w ∧ ∀ (i : Nat) (v : Value), cs'[i]? = some v → w.cell? (x.at_ (off + i)) = some v := by
 unfold loadC at hl
 cases hf : h.fam id with
 | none => rw [hf] at hl; cases hl
 | some f =>
 rw [hf] at hl
 simp only at hl
 split at hl
 case isFalse => cases hl
 rename_i hc
 simp only [Option.some.injEq] at hl
 subst hl
 obtain ⟨r1, c, el, fz, r2, r3, r4, r5⟩ := hr.row _ _ _ hx hf
 have hN : off + k ≤ f.data.length := by
  have := hc.2
  unfold Fam.rb at this
  split at this
  ·have := hw.curn _ _ hf ‹_›; omega
  ·have := hw.stale _ _ hf ‹_›; omega
 have hlen : ((f.data.drop off).take k).length = k := by simp; omega
 have hread : ∀ j, j < k → ∃ v v', f.data[off + j]? = some v ∧ c[x.s + (off + j - x.lo)]? = some v' ∧ VR β v v' := by
  intro j hj
  have h1 : f.data[off + j]? = some f.data[off + j] := List.getElem?_eq_getElem (by omega)
  obtain ⟨v', k1, k2⟩ := r4 (off + j) _ (by omega) (by omega) h1
  exact ⟨_, v', h1, k1, k2⟩
 have hxo : x.lo ≤ off := by omega
 have hcell : ∀ i, i < k → w.cell? (x.at_ (off + i)) = c[x.s + (off + i - x.lo)]? := by
  intro i _
  simp [World.cell?, Bx.at_, r2]
 refine ⟨hxo, hlen, (List.range k).map fun j => (c[x.s + (off + j - x.lo)]?).getD undef, ⟨by simp [hlen], fun i v v' a b => ?_⟩, ?_, fun i v a => ?_⟩
 ·have hi : i < k := by
   rcases Nat.lt_or_ge i k with q | q
   ·exact q
   ·rw [List.getElem?_eq_none (by rw [hlen]; exact q)] at a; cases a
  obtain ⟨u, u', k1, k2, k3⟩ := hread i hi
  rw [List.getElem?_take_of_lt hi, List.getElem?_drop, k1] at a
  cases a
  simp [hi, k2] at b
  subst b
  exact k3
 ·rw [run_loadCells (P := P) w (x.at_ off) k (fun j => (c[x.s + (off + j - x.lo)]?).getD undef) ?_]
  intro j hj
  obtain ⟨u, u', k1, k2, k3⟩ := hread j hj
  have : (x.at_ off).add j = x.at_ (off + j) := by
   unfold Addr.add Bx.at_
   split
   ·subst_vars; simp
   ·simp; omega
  rw [this, hcell j hj, k2]
  rfl
 ·have hi : i < k := by
   rcases Nat.lt_or_ge i k with q | q
   ·exact q
   ·rw [List.getElem?_eq_none (by simpa using q)] at a; cases a
  obtain ⟨u, u', k1, k2, k3⟩ := hread i hi
  simp [hi, k2] at a
  subst a
  rw [hcell i hi, k2]
end
end Go.AM
namespace Go.AM
section
variable {P : Program} {β : Ren} {h : AH} {w : World} {e : Tr Value} {a : Act}
theorem ev_sound (he : EnvW β e a.tmps) {o : Operand} {v : Value} (hv : ev e o = some v) : VR β v (a.eval o) := by
 cases o with
 | tmp t =>
  obtain ⟨v', h1, h2⟩ := he _ _ hv
  have : a.eval (.tmp t) = v' := by simp [Act.eval, h1]
  rw [this]; exact h2
 | const c =>
  simp only [ev] at hv
  split at hv
  ·cases hv; exact .of_free ‹_›
  ·cases hv
 | global g => cases hv
 | func f =>
  simp only [ev, Option.some.injEq] at hv
  subst hv
  exact .func rfl (fun i v v' h => by simp at h) rfl (fun i v v' h => by simp at h)
theorem evs_sound (he : EnvW β e a.tmps) : ∀ {xs : List Operand} {vs : List Value}, evs e xs = some vs → VRl β vs (xs.map a.eval)
 | [], vs, hv => by cases hv; exact .nil
 | x :: r, vs, hv => by
  simp only [evs] at hv
  cases h1 : ev e x with
  | none => rw [h1] at hv; cases hv
  | some v =>
   cases h2 : evs e r with
   | none => rw [h1, h2] at hv; cases hv
   | some ws =>
    rw [h1, h2] at hv
    cases hv
    exact .cons (ev_sound he h1) (evs_sound he h2)
def OkOp (P : Program) (β : Ren) (h : AH) (w : World) (s : Sem Next) (v : Value) (h' : AH) : Prop :=
 ∃ v' w' β', (s.run P w = .ok (.value v') w' ∨ (s.run P w = .ok .skip w' ∧ v' = undef)) ∧ VR β' v v' ∧ HR β' h' w' ∧ Wf h' ∧ Evo β h w β' h' w'
theorem OkOp.pure (hr : HR β h w) (hw : Wf h) {s : Sem Next} {v v' : Value} (hs : s.run P w = .ok (.value v') w) (hv : VR β v v') : OkOp P β h w s v h :=
 ⟨v', w, β, .inl hs, hv, hr, hw, .refl _ _ _⟩
theorem run_info {t : TypeId} {i : TypeInfo} (hi : P.info? t = some i) : (typeInfo t).run P w = .ok i w := by simp [typeInfo, hi]
theorem run_sz {t : TypeId} {n : Nat} (hi : szOf P t = some n) : (sizeOf t).run P w = .ok n w := by
 unfold szOf at hi
 cases h1 : P.info? t with
 | none => rw [h1] at hi; cases hi
 | some i => rw [h1] at hi; cases hi; simp [sizeOf, run_info h1]
theorem run_agg {t : TypeId} {b : Bool} (hi : aggOf P t = some b) : (isAgg t).run P w = .ok b w := by
 unfold aggOf at hi
 cases h1 : P.underlying t with
 | none => rw [h1] at hi; cases hi
 | some d =>
  rw [h1] at hi
  cases d <;> (simp only [Option.some.injEq] at hi; subst hi; simp [isAgg, run_underlying h1])
theorem run_zeroV {t : TypeId} {z : Value} (hi : (P.info? t).bind (·.zero) = some z) : (zeroValue t).run P w = .ok z w := by
 cases h1 : P.info? t with
 | none => rw [h1] at hi; cases hi
 | some i =>
  rw [h1] at hi
  simp only [Option.bind_some] at hi
  simp [zeroValue, run_info h1, hi]
theorem at_add {x : Bx} {off n : Nat} (h : x.lo ≤ off) : (x.at_ off).add n = x.at_ (off + n) := by
 unfold Addr.add Bx.at_
 split
 ·subst_vars; simp
 ·simp; omega
theorem ptr_inv {v' : Value} {id off : Nat} (hv : VR β (.pointer (some ⟨id, off, none⟩)) v') : ∃ x, β id = some x ∧ x.lo ≤ off ∧ v' = .pointer (some (x.at_ off)) := by
 cases hv with
 | free v hf => simp [free0] at hf
 | ptr h1 h2 => exact ⟨_, h1, h2, rfl⟩
theorem slice_inv {v' : Value} {id off len cap : Nat} (hv : VR β (.slice (some ⟨id, off, none⟩) len cap) v') :
  ∃ x a' cap', β id = some x ∧ x.lo ≤ off ∧ CapR x off len cap cap' ∧ (cap' = 0 ∨ a' = x.at_ off) ∧ v' = .slice (some a') len cap' := by
 cases hv with
 | free v hf => simp [free0] at hf
 | slice h1 h2 h3 h4 => exact ⟨_, _, _, h1, h2, h3, h4, rfl⟩
theorem CapR.le {x : Bx} {off len cap cap' : Nat} (h : CapR x off len cap cap') : len ≤ cap' := by
 rcases h with ⟨_, h⟩ | ⟨e, _, _, h, _⟩ <;> omega
theorem loadV_sound (hr : HR β h w) (hw : Wf h) {t : TypeId} {p v p' : Value} (hl : loadV P h t p = some v) (hp : VR β p p') :
  ∃ v' a', p' = .pointer (some a') ∧ (loadVar t a').run P w = .ok v' w ∧ VR β v v' := by
 unfold loadV at hl
 split at hl
 case h_2 => cases hl
 rename_i id off
 obtain ⟨x, hx, hlo, rfl⟩ := ptr_inv hp
 split at hl
 ·rename_i hagg
  cases hs : szOf P t with
  | none => rw [hs] at hl; cases hl
  | some sz =>
   rw [hs] at hl
   simp only at hl
   cases hc : loadC h id off sz with
   | none => rw [hc] at hl; cases hl
   | some cs =>
    rw [hc] at hl
    cases hl
    obtain ⟨_, h1, cs', h2, h3, _⟩ := hr_load P hr hw hc hx
    exact ⟨_, _, rfl, by simp [loadVar, run_agg hagg, run_sz hs, h3], h2.toArr⟩
 ·rename_i hagg
  cases hc : loadC h id off 1 with
  | none => rw [hc] at hl; cases hl
  | some cs =>
   rw [hc] at hl
   split at hl
   ·rename_i u hu
    cases hl
    cases hu
    obtain ⟨_, h1, cs', h2, h3, h4⟩ := hr_load P hr hw hc hx
    have hl' : cs'.length = 1 := by rw [← h2.1]; rfl
    match cs', hl' with
    | [u'], _ =>
     refine ⟨u', _, rfl, ?_, h2.2 0 _ _ rfl rfl⟩
     have := h4 0 u' rfl
     simp only [Nat.add_zero] at this
     simp [loadVar, run_agg hagg, this]
   ·cases hl
 ·cases hl
theorem storeC_len {id off : Nat} {vs : List Value} {h' : AH} (hs : storeC h id off vs = some h') : ∃ f, h.fam id = some f ∧ id = f.cur ∧ f.ro = false ∧ f.lo ≤ off ∧ off + vs.length ≤ f.n ∧ vs.all oneC = true := by
 unfold storeC at hs
 cases hf : h.fam id with
 | none => rw [hf] at hs; cases hs
 | some f =>
  rw [hf] at hs
  simp only at hs
  split at hs
  ·rename_i hc; exact ⟨f, rfl, hc⟩
  ·cases hs
theorem all_oneC {l l' : List Value} (hv : VRl β l l') (h1 : l.all oneC = true) : l'.all oneC = true := by
 rw [List.all_eq_true] at h1 ⊢
 intro u hu
 obtain ⟨i, hi, rfl⟩ := List.mem_iff_getElem.1 hu
 have hi' : i < l.length := by rw [hv.1]; exact hi
 rw [(hv.2 i _ _ (List.getElem?_eq_getElem hi') (List.getElem?_eq_getElem hi)).oneC]
 exact h1 _ (List.getElem_mem hi')
theorem storeC_sound (P : Program) (hr : HR β h w) (hw : Wf h) {id off : Nat} {vs vs' : List Value} {h' : AH} {x : Bx} (hs : storeC h id off vs = some h') (hx : β id = some x) (hv : VRl β vs vs') :
  ∃ w', (storeCells (x.at_ off) vs').run P w = .ok () w' ∧ HR β h' w' ∧ Wf h' ∧ Evo β h w β h' w' := by
 obtain ⟨f, hf, hcur, hro, hlo, hn, h1⟩ := storeC_len hs
 obtain ⟨r1, c, el, fz, r2, r3, r4, r5⟩ := hr.row _ _ _ hx hf
 obtain ⟨r6, r7⟩ := r5 hro
 have := hv.1
 obtain ⟨w', k1, k2⟩ := run_stores P x.g el fz (x.s + (off - x.lo)) vs' 0 w c r2 r6 (by omega) (all_oneC hv h1)
 obtain ⟨k3, k4, k5⟩ := hr_store hr hw hs hx hv k2
 exact ⟨w', k1, k3, k4, k5⟩
theorem storeV_sound (hr : HR β h w) (hw : Wf h) {t : TypeId} {p p' v v' : Value} {h' : AH} (hs : storeV P h t p v = some h') (hp : VR β p p') (hv : VR β v v') :
  ∃ a' w', p' = .pointer (some a') ∧ (storeVar t a' v').run P w = .ok () w' ∧ HR β h' w' ∧ Wf h' ∧ Evo β h w β h' w' := by
 unfold storeV at hs
 split at hs
 ·rename_i id off sz hsz
  obtain ⟨x, hx, hlo, rfl⟩ := ptr_inv hp
  split at hs
  ·rename_i hc
   have hcl := hv.cells
   obtain ⟨w', k1, k2, k3, k4⟩ := storeC_sound P hr hw hs hx hcl
   refine ⟨_, w', rfl, ?_, k2, k3, k4⟩
   have : v'.cells.size = sz := by rw [← hc]; exact hcl.1.symm
   simp [storeVar, run_sz hsz, this, k1]
  ·cases hs
 ·cases hs
theorem fieldAddr_sound {t : TypeId} {p p' v : Value} {i : Nat} (hf : fieldAddrV P t p i = some v) (hp : VR β p p') : ∃ v', (Instr.fieldAt t p' i).run P w = .ok v' w ∧ VR β v v' := by
 unfold fieldAddrV at hf
 split at hf
 ·rename_i id off fs hu
  obtain ⟨x, hx, hlo, rfl⟩ := ptr_inv hp
  cases h1 : fs[i]? with
  | none => rw [h1] at hf; cases hf
  | some f =>
   rw [h1] at hf
   simp only at hf
   split at hf
   ·rename_i n hn
    cases hf
    refine ⟨.pointer (some (x.at_ (off + f.offset))), ?_, .ptr hx (by omega)⟩
    simp [Instr.fieldAt, run_underlying hu, h1, Instr.sureAddr, fieldPlace, run_sz hn, at_add hlo]
   ·cases hf
 ·cases hf
theorem indexAddr_sound {t : TypeId} {x y x' y' v : Value} (hf : indexAddrV P t x y = some v) (hx : VR β x x') (hy : VR β y y') : ∃ v', (Instr.indexAt t x' y').run P w = .ok v' w ∧ VR β v v' := by
 unfold indexAddrV at hf
 split at hf
 case h_2 => cases hf
 rename_i k n
 have : y' = .int k n := hy.free0_eq rfl
 subst this
 split at hf
 ·rename_i len el id off hu
  obtain ⟨b, hb, hlo, rfl⟩ := ptr_inv hx
  cases hs : szOf P el with
  | none => rw [hs] at hf; cases hf
  | some sz =>
   rw [hs] at hf
   simp only at hf
   split at hf
   ·rename_i hc
    cases hf
    refine ⟨.pointer (some (b.at_ (off + n.toNat * sz))), ?_, .ptr hb (by omega)⟩
    simp [Instr.indexAt, asIntOf, run_underlying hu, Instr.sureAddr, hc, run_sz hs, at_add hlo]
   ·cases hf
 ·rename_i el id off len cap hu
  obtain ⟨b, a', cap', hb, hlo, hc, ha, rfl⟩ := slice_inv hx
  cases hs : szOf P el with
  | none => rw [hs] at hf; cases hf
  | some sz =>
   rw [hs] at hf
   simp only at hf
   split at hf
   ·rename_i hcd
    cases hf
    have := hc.le
    have ha' : a' = b.at_ off := ha.resolve_left (by omega)
    subst ha'
    refine ⟨.pointer (some (b.at_ (off + n.toNat * sz))), ?_, .ptr hb (by omega)⟩
    simp [Instr.indexAt, asIntOf, run_underlying hu, hcd, run_sz hs, at_add hlo]
   ·cases hf
 ·cases hf
end
end Go.AM
namespace Go.AM
section
variable {P : Program} {β : Ren} {h : AH} {w : World} {e : Tr Value} {a : Act}
def OVR (β : Ren) : Option Value → Option Value → Prop
 | none, none => True
 | some v, some v' => VR β v v'
 | _, _ => False
theorem evO_sound (he : EnvW β e a.tmps) {o : Option Operand} {v : Option Value} (hv : evO e o = some v) : OVR β v (o.map a.eval) := by
 cases o with
 | none => cases hv; trivial
 | some x =>
  simp only [evO] at hv
  cases h1 : ev e x with
  | none => rw [h1] at hv; cases hv
  | some u => rw [h1] at hv; cases hv; exact ev_sound he h1
theorem nat_inv {v : Option Value} {d n : Nat} (hn : nat? v d = some n) : (v = none ∧ n = d) ∨ ∃ k z, v = some (.int k z) ∧ 0 ≤ z ∧ n = z.toNat := by
 unfold nat? at hn
 split at hn
 ·cases hn; exact .inl ⟨rfl, rfl⟩
 ·rename_i k z
  split at hn
  ·cases hn; exact .inr ⟨_, _, rfl, ‹_›, rfl⟩
  ·cases hn
 ·cases hn
theorem ovr_nat {v v' : Option Value} {d n : Nat} (hn : nat? v d = some n) (ho : OVR β v v') : v' = v := by
 rcases nat_inv hn with ⟨rfl, _⟩ | ⟨k, z, rfl, _, _⟩
 ·cases v' with
  | none => rfl
  | some _ => exact ho.elim
 ·cases v' with
  | none => exact ho.elim
  | some u => rw [VR.free0_eq (β := β) ho rfl]
theorem run_bounds {lo hi mx : Option Value} {len C l hh m : Nat} (h1 : nat? lo 0 = some l) (h2 : nat? hi len = some hh) (h3 : nat? mx C = some m) (h4 : l ≤ hh) (h5 : hh ≤ m) (h6 : m ≤ C)
  (h7 : mx.isSome = true → hi.isSome = true) : (Instr.sliceBounds true len C lo hi mx).run P w = .ok (l, hh, m) w := by
 have bound : ∀ {k : IntKind} {z : Int} {y : Nat} {code : BoundsCode}, 0 ≤ z → z.toNat ≤ y → (Instr.sliceBound (.int k z) y code).run P w = .ok z.toNat w := by
  intro k z y code a b
  have : z ≤ y := by omega
  simp [Instr.sliceBound, asIntOf, a, this]
 rcases nat_inv h1 with ⟨rfl, rfl⟩ | ⟨k1, z1, rfl, p1, rfl⟩ <;> rcases nat_inv h2 with ⟨rfl, rfl⟩ | ⟨k2, z2, rfl, p2, rfl⟩ <;> rcases nat_inv h3 with ⟨rfl, rfl⟩ | ⟨k3, z3, rfl, p3, rfl⟩ <;>
  first
   | (simp at h7; done)
   | (simp only [Instr.sliceBounds, Sem.run_bind, Sem.run_pure, Result.andThen_ok, bound p3 h6, bound p2 h5, bound p1 h4])
   | (simp only [Instr.sliceBounds, Sem.run_bind, Sem.run_pure, Result.andThen_ok, bound p2 h5, bound p1 h4])
   | (simp only [Instr.sliceBounds, Sem.run_bind, Sem.run_pure, Result.andThen_ok, bound p3 h6, bound p2 h5])
   | (simp only [Instr.sliceBounds, Sem.run_bind, Sem.run_pure, Result.andThen_ok, bound p2 h5])
   | (simp only [Instr.sliceBounds, Sem.run_bind, Sem.run_pure, Result.andThen_ok, bound p1 h4])
   | (simp only [Instr.sliceBounds, Sem.run_bind, Sem.run_pure, Result.andThen_ok])
theorem loadC_z (hr : HR β h w) (hw : Wf h) {id off k : Nat} {cs : List Value} {x : Bx} (hl : loadC h id off k = some cs) (hx : β id = some x) : k = 0 ∨ x.s + (off - x.lo) + k ≤ x.z := by
 rcases Nat.eq_zero_or_pos k with h0 | h0
 ·exact .inl h0
 right
 unfold loadC at hl
 cases hf : h.fam id with
 | none => rw [hf] at hl; cases hl
 | some f =>
 rw [hf] at hl
 simp only at hl
 split at hl
 case isFalse => cases hl
 rename_i hc
 obtain ⟨r1, c, el, fz, r2, r3, r4, r5⟩ := hr.row _ _ _ hx hf
 have hN : off + k ≤ f.data.length := by
  have := hc.2
  unfold Fam.rb at this
  split at this
  ·have := hw.curn _ _ hf ‹_›; omega
  ·have := hw.stale _ _ hf ‹_›; omega
 obtain ⟨v', k1, _⟩ := r4 (off + k - 1) _ (by omega) (by omega) (List.getElem?_eq_getElem (by omega))
 have : x.s + (off + k - 1 - x.lo) < c.size := by
  rcases Nat.lt_or_ge (x.s + (off + k - 1 - x.lo)) c.size with q | q
  ·exact q
  ·rw [Array.getElem?_eq_none q] at k1; cases k1
 omega
theorem slice_sound (hr : HR β h w) (hw : Wf h) {t : TypeId} {x x' v : Value} {lo hi mx lo' hi' mx' : Option Value} (hs : sliceV P h t x lo hi mx = some v) (hx : VR β x x')
  (hlo : OVR β lo lo') (hhi : OVR β hi hi') (hmx : OVR β mx mx') : ∃ v', (Instr.sliceAt t x' lo' hi' mx').run P w = .ok v' w ∧ VR β v v' := by
 unfold sliceV at hs
 split at hs
 case h_2 => cases hs
 rename_i el ad len cap hu
 split at hs
 case h_2 => cases hs
 rename_i sz l hh m hsz hl hhh hm
 rw [ovr_nat hl hlo, ovr_nat hhh hhi, ovr_nat hm hmx]
 split at hs
 ·rename_i hmk
  obtain ⟨k1, rfl, rfl⟩ := hmk
  split at hs
  case isFalse => cases hs
  rename_i hz
  obtain ⟨rfl, rfl, rfl, z4⟩ := hz
  cases hs
  cases ad with
  | some _ => cases k1
  | none =>
  have shape : ∃ a' c', x' = .slice a' 0 c' := by cases hx <;> exact ⟨_, _, rfl⟩
  obtain ⟨a', c', rfl⟩ := shape
  have hM : ∃ M, nat? mx c' = some M ∧ M ≤ c' := by
   cases mx with
   | none => exact ⟨c', rfl, Nat.le_refl _⟩
   | some mv => exact ⟨0, (by cases mv <;> exact hm), Nat.zero_le _⟩
  obtain ⟨M, hM1, hM2⟩ := hM
  refine ⟨.slice (if M = 0 then a' else a'.map (·.add (0 * sz))) (0 - 0) (M - 0), ?_, .empty⟩
  simp only [Instr.sliceAt, Instr.slice, Sem.run_bind, run_underlying hu, Result.andThen_ok, run_bounds hl hhh hM1 (Nat.le_refl _) (Nat.zero_le _) hM2 z4, run_sz hsz, Sem.run_pure]
 rename_i hnmk
 split at hs
 case isFalse => cases hs
 rename_i hc
 obtain ⟨c1, c2, c3, c4, c5, c6⟩ := hc
 have go : ∀ {ad' : Option Addr} {C M : Nat}, nat? mx C = some M → hh ≤ M → M ≤ C → (Instr.sliceAt t (.slice ad' len C) lo hi mx).run P w = .ok (.slice (if M = l then ad' else ad'.map (·.add (l * sz))) (hh - l) (M - l)) w := by
  intro ad' C M a b c
  simp only [Instr.sliceAt, Instr.slice, Sem.run_bind, run_underlying hu, Result.andThen_ok, run_bounds hl hhh a c1 b c c5, run_sz hsz, Sem.run_pure]
 split at hs
 ·-- nil
  split at hs
  case isFalse => cases hs
  rename_i h0
  obtain ⟨rfl, rfl⟩ := h0
  cases hs
  have : x' = .slice none 0 0 := hx.free0_eq rfl
  subst this
  have hm0 : m = 0 := by omega
  subst hm0
  rw [go hm c2 c3]
  refine ⟨_, rfl, ?_⟩
  have hl0 : l = 0 := by omega
  have hh0 : hh = 0 := by omega
  subst hl0; subst hh0
  simp
  exact .free _ rfl
 ·rename_i id off
  obtain ⟨b, a', cap', hb, hblo, hcr, ha, rfl⟩ := slice_inv hx
  have hle := hcr.le
  -- the new address
  have haddr : ∀ {M : Nat}, M ≤ cap' → M - l = 0 ∨ (if M = l then a' else a'.add (l * sz)) = b.at_ (off + l * sz) := by
   intro M hM
   by_cases q : M = l
   ·left; omega
   ·rcases Nat.lt_or_ge l M with q2 | q2
    ·right
     rw [if_neg q, ha.resolve_left (by omega), at_add hblo]
    ·left; omega
  have hmap : ∀ {M : Nat}, (if M = l then some a' else (some a').map (·.add (l * sz))) = some (if M = l then a' else a'.add (l * sz)) := by
   intro M; split <;> rfl
  split at hs
  ·rename_i hx2
   have hM : ∃ M, nat? mx cap' = some M ∧ M = m ∧ M ≤ cap' := by
    cases mx with
    | none =>
     have hm' : m = len := by simp [nat?] at hm; exact hm.symm
     have : cap = len := by
      rcases hx2 with q | q
      ·simp at q
      ·exact q
     rcases hcr with ⟨_, q⟩ | ⟨e, q1, q2, q3, q4⟩
     ·exact ⟨cap', rfl, by omega, Nat.le_refl _⟩
     ·omega
    | some u =>
     refine ⟨m, ?_, rfl, by omega⟩
     rcases nat_inv hm with ⟨q, _⟩ | ⟨k, z, q1, q2, q3⟩
     ·cases q
     ·cases q1; simp [nat?, q2, q3]
   obtain ⟨M, m1, m2, m3⟩ := hM
   subst m2
   rw [go m1 c2 m3, hmap]
   refine ⟨_, rfl, ?_⟩
   split at hs
   ·rename_i hhm
    cases hs
    subst hhm
    by_cases q : hh = l
    ·subst q
     simp only [if_true]
     exact .slice hb hblo (.inl ⟨rfl, rfl⟩) (.inl (by omega))
    ·rw [if_neg q]
     exact .slice hb (by omega) (.inl ⟨rfl, rfl⟩) (haddr m3)
   ·rename_i hhm
    split at hs
    case isFalse => cases hs
    rename_i hld
    cases hs
    obtain ⟨cs, hcs⟩ := Option.isSome_iff_exists.1 hld
    refine .slice hb (by omega) (.inr ⟨sz, c4, rfl, by omega, ?_⟩) (haddr m3)
    rcases loadC_z hr hw hcs hb with q | q
    ·have : len = 0 := by rcases Nat.mul_eq_zero.1 q with q | q <;> omega
     omega
    ·have e1 : l * sz + (M - l) * sz = M * sz := by rw [← Nat.add_mul]; congr 1; omega
     have e2 : M * sz ≤ len * sz := Nat.mul_le_mul_right _ c3
     omega
  ·rename_i hx2
   have hmx : mx = none := by
    cases mx with
    | none => rfl
    | some _ => exact absurd (.inl rfl) hx2
   subst hmx
   have hcap : cap = len + sz := by
    rcases c6 with q | q
    ·exact absurd (.inr q) hx2
    ·exact q
   cases hs
   have hm' : m = len := by simp [nat?] at hm; exact hm.symm
   rw [go (C := cap') (M := cap') rfl (by omega) (Nat.le_refl _), hmap]
   refine ⟨_, rfl, ?_⟩
   refine .slice hb (by omega) (.inr ⟨sz, c4, rfl, by omega, ?_⟩) (haddr (Nat.le_refl _))
   rcases hcr with ⟨q, _⟩ | ⟨e', q1, q2, q3, q4⟩
   ·omega
   ·have : e' = sz := by omega
    subst this
    have e1 : l * e' + (cap' - l) * e' = cap' * e' := by rw [← Nat.add_mul]; congr 1; omega
    omega
 ·cases hs
theorem evP_sound (he : EnvW β e a.tmps) : ∀ {xs : List (Nat × Operand)} {vs : List (Nat × Value)}, evP e xs = some vs →
  ∃ vs', xs.map (fun q => (q.1, a.eval q.2)) = vs' ∧ vs.length = vs'.length ∧ ∀ (i : Nat) (p p' : Nat × Value), vs[i]? = some p → vs'[i]? = some p' → p'.1 = p.1 ∧ VR β p.2 p'.2
 | [], vs, hv => by cases hv; exact ⟨[], rfl, rfl, fun i p p' q => by simp at q⟩
 | (k, x) :: r, vs, hv => by
  simp only [evP] at hv
  cases h1 : ev e x with
  | none => rw [h1] at hv; cases hv
  | some v =>
   cases h2 : evP e r with
   | none => rw [h1, h2] at hv; cases hv
   | some ws =>
    rw [h1, h2] at hv
    cases hv
    obtain ⟨ws', q1, q2, q3⟩ := evP_sound he h2
    refine ⟨(k, a.eval x) :: ws', by simp [q1], by simp [q2], fun i p p' m1 m2 => ?_⟩
    cases i with
    | zero => simp at m1 m2; subst m1; subst m2; exact ⟨rfl, ev_sound he h1⟩
    | succ i => exact q3 i p p' (by simpa using m1) (by simpa using m2)
theorem foldl_set_vr {β : Ren} (off : Nat) : ∀ (l l' : List (Value × Nat)), l.length = l'.length → (∀ (i : Nat) (p p' : Value × Nat), l[i]? = some p → l'[i]? = some p' → p'.2 = p.2 ∧ VR β p.1 p'.1) →
  ∀ (cs cs' : Array Value), VRl β cs.toList cs'.toList → VRl β (l.foldl (fun cs x => cs.setIfInBounds (off + x.2) x.1) cs).toList (l'.foldl (fun cs x => cs.setIfInBounds (off + x.2) x.1) cs').toList
 | [], [], _, _, cs, cs', hc => hc
 | [], _ :: _, hl, _, _, _, _ => by simp at hl
 | _ :: _, [], hl, _, _, _, _ => by simp at hl
 | x :: l, x' :: l', hl, hp, cs, cs', hc => by
  obtain ⟨e1, e2⟩ := hp 0 x x' rfl rfl
  simp only [List.foldl_cons]
  refine foldl_set_vr off l l' (by simpa using hl) (fun i p p' a b => hp (i + 1) p p' (by simpa using a) (by simpa using b)) _ _ ?_
  rw [e1]
  have hsz : cs.size = cs'.size := by simpa using hc.1
  refine ⟨by simp [hsz], fun i v v' a b => ?_⟩
  simp only [Array.getElem?_toList] at a b
  by_cases hi : off + x.2 = i
  ·subst hi
   by_cases hlt : off + x.2 < cs.size
   ·rw [Array.getElem?_setIfInBounds_self_of_lt hlt] at a
    rw [Array.getElem?_setIfInBounds_self_of_lt (by omega)] at b
    cases a; cases b; exact e2
   ·rw [Array.getElem?_eq_none (by simp; omega)] at a; cases a
  ·rw [Array.getElem?_setIfInBounds_ne hi] at a b
   exact hc.2 i v v' (by simpa using a) (by simpa using b)
theorem fill_vr {β : Ren} (place : Nat → Option (Nat × Nat)) : ∀ (ps ps' : List (Nat × Value)), ps.length = ps'.length →
  (∀ (i : Nat) (p p' : Nat × Value), ps[i]? = some p → ps'[i]? = some p' → p'.1 = p.1 ∧ VR β p.2 p'.2) →
  ∀ (cs cs' r : Array Value), VRl β cs.toList cs'.toList → Instr.fill place cs ps = some r → ∃ r', Instr.fill place cs' ps' = some r' ∧ VRl β r.toList r'.toList
 | [], [], _, _, cs, cs', r, hc, hf => by
  simp only [Instr.fill, Option.some.injEq] at hf
  subst hf
  exact ⟨cs', rfl, hc⟩
 | [], _ :: _, hl, _, _, _, _, _, _ => by simp at hl
 | _ :: _, [], hl, _, _, _, _, _, _ => by simp at hl
 | (k, v) :: ps, (k', v') :: ps', hl, hp, cs, cs', r, hc, hf => by
  obtain ⟨e1, e2⟩ := hp 0 _ _ rfl rfl
  simp only at e1 e2
  subst e1
  simp only [Instr.fill] at hf ⊢
  cases hpl : place k' with
  | none => rw [hpl] at hf; cases hf
  | some os =>
   obtain ⟨off, size⟩ := os
   rw [hpl] at hf
   simp only at hf ⊢
   have hcl := e2.cells
   have h1 : v'.cells.size = v.cells.size := by simpa using hcl.1.symm
   have h2 : cs'.size = cs.size := by simpa using hc.1.symm
   rw [h1, h2]
   split at hf
   ·cases hf
   ·rename_i hcond
    rw [if_neg hcond]
    refine fill_vr place ps ps' (by simpa using hl) (fun i p p' a b => hp (i + 1) p p' (by simpa using a) (by simpa using b)) _ _ r ?_ hf
    have hz : ∀ (A : Array Value) (B : Array Value), (A.zipIdx.foldl (fun cs (x : Value × Nat) => cs.setIfInBounds (off + x.2) x.1) B) = (A.toList.zipIdx.foldl (fun cs (x : Value × Nat) => cs.setIfInBounds (off + x.2) x.1) B) := by
     intro A B
     rw [← Array.foldl_toList, Array.toList_zipIdx]
    have := foldl_set_vr (β := β) off v.cells.toList.zipIdx v'.cells.toList.zipIdx (by simp [hcl.1]) (fun i p p' a b => by
     rw [List.getElem?_zipIdx] at a b
     cases q1 : v.cells.toList[i]? with
     | none => rw [q1] at a; cases a
     | some u =>
      cases q2 : v'.cells.toList[i]? with
      | none => rw [q2] at b; cases b
      | some u' =>
       rw [q1] at a; rw [q2] at b
       cases a; cases b
       exact ⟨rfl, hcl.2 i _ _ q1 q2⟩) cs cs' hc
    rw [← hz, ← hz] at this
    exact this
end
end Go.AM
namespace Go.AM
section
variable {P : Program} {β : Ren} {h : AH} {w : World} {e : Tr Value} {a : Act}
theorem quick_zero {t : TypeId} {z : Value} (hq : quick P (zeroValue t) = some z) : (P.info? t).bind (·.zero) = some z := by
 unfold zeroValue typeInfo at hq
 simp only [quick_bind] at hq
 cases h1 : P.info? t with
 | none => simp [program, quick, h1, stuck] at hq
 | some i =>
  simp only [program, quick, h1, Option.bind_some] at hq
  change (quick P (match i.zero with | some v => pure v | none => unsupported _)) = some z at hq
  cases h2 : i.zero with
  | none => rw [h2] at hq; cases hq
  | some v =>
   rw [h2] at hq
   have : some v = some z := hq
   simpa [h2] using this
theorem build_sound {t : TypeId} {ps ps' : List (Nat × Value)} {v z : Value} (hz : (P.info? t).bind (·.zero) = some z) (hf : free1 z = true) (hq : quick P (Instr.build t ⟨ps⟩) = some v)
  (hl : ps.length = ps'.length) (hp : ∀ (i : Nat) (p p' : Nat × Value), ps[i]? = some p → ps'[i]? = some p' → p'.1 = p.1 ∧ VR β p.2 p'.2) :
  ∃ v', (Instr.build t ⟨ps'⟩).run P w = .ok v' w ∧ VR β v v' := by
 unfold Instr.build at hq ⊢
 simp only [quick_bind, Option.bind_eq_some_iff] at hq
 obtain ⟨z0, hz0, d, hd, hq⟩ := hq
 have : z0 = z := by
  have := quick_zero hz0
  rw [hz] at this
  cases this; rfl
 subst this
 have hzc : VRl β z0.cells.toList z0.cells.toList := (VR.of_free1 hf).cells
 cases d with
 | struct fields =>
  simp only [quick_bind, Option.bind_eq_some_iff] at hq
  obtain ⟨places, hpl, hq⟩ := hq
  cases hfl : Instr.fill (places[·]?) z0.cells ps with
  | none => simp only [hfl] at hq; cases hq
  | some cells =>
   simp only [hfl] at hq
   obtain ⟨cells', hc1, hc2⟩ := fill_vr (β := β) (places[·]?) ps ps' hl hp _ _ _ hzc hfl
   have hv : v = .agg cells := by simpa [quick, pure] using hq.symm
   subst hv
   refine ⟨.agg cells', ?_, ?_⟩
   ·simp only [Sem.run_bind, quick_run hz0, quick_run hd, Result.andThen_ok, quick_run hpl, hc1, Sem.run_pure]
   ·exact hc2.toArr
 | array n el =>
  simp only [quick_bind, Option.bind_eq_some_iff] at hq
  obtain ⟨size, hsz, hq⟩ := hq
  cases hfl : Instr.fill (fun i => some (i * size, size)) z0.cells ps with
  | none => simp only [hfl] at hq; cases hq
  | some cells =>
   simp only [hfl] at hq
   obtain ⟨cells', hc1, hc2⟩ := fill_vr (β := β) (fun i => some (i * size, size)) ps ps' hl hp _ _ _ hzc hfl
   have hv : v = .agg cells := by simpa [quick, pure] using hq.symm
   subst hv
   refine ⟨.agg cells', ?_, ?_⟩
   ·simp only [Sem.run_bind, quick_run hz0, quick_run hd, Result.andThen_ok, quick_run hsz, hc1, Sem.run_pure]
   ·exact hc2.toArr
 | _ => cases hq
theorem zerosC_length (z : List Value) : ∀ n, (zerosC z n).length = n * z.length
 | 0 => by simp [zerosC]
 | n + 1 => by rw [zerosC, List.length_append, zerosC_length z n, Nat.succ_mul]; omega
theorem zerosC_get (z : List Value) : ∀ n i, i < n * z.length → (zerosC z n)[i]? = z[i % z.length]?
 | 0, i, h => by simp at h
 | n + 1, i, h => by
  rw [zerosC]
  by_cases hi : i < z.length
  ·rw [List.getElem?_append_left hi, Nat.mod_eq_of_lt hi]
  ·rw [List.getElem?_append_right (by omega), zerosC_get z n (i - z.length) (by rw [Nat.succ_mul] at h; omega)]
   rw [Nat.mod_eq_sub_mod (show i ≥ z.length by omega)]
theorem zeros_range {z : Array Value} {sz n : Nat} (hz : z.size = sz) (h0 : 0 < sz) : (Array.range (n * sz)).map (fun i => z[i % z.size]!) = ⟨zerosC z.toList n⟩ := by
 refine Array.ext_getElem? fun i => ?_
 have hR : (⟨zerosC z.toList n⟩ : Array Value)[i]? = (zerosC z.toList n)[i]? := List.getElem?_toArray
 rw [hR]
 by_cases hi : i < n * sz
 ·have : i % z.size < z.size := Nat.mod_lt _ (by omega)
  have e := zerosC_get z.toList n i (by simpa [hz] using hi)
  simp only [Array.length_toList] at e
  rw [e]
  simp [hi, this]
 ·rw [Array.getElem?_eq_none (by simp; omega), List.getElem?_eq_none (by simp [zerosC_length, hz]; omega)]
theorem zerosC_free {z : List Value} (hz : z.all free1 = true) : ∀ n, (zerosC z n).all free1 = true
 | 0 => rfl
 | n + 1 => by rw [zerosC, List.all_append, hz, zerosC_free hz n]; rfl
theorem free0_oneC {v : Value} (h : free0 v = true) : oneC v = true := by cases v <;> first | rfl | (simp [free0] at h)
theorem free0_free1 {v : Value} (h : free0 v = true) : free1 v = true := by cases v <;> first | exact h | (simp [free0] at h)
theorem free1_cases {z : Value} (hz : free1 z = true) : (∃ cs : Array Value, z = .agg cs ∧ cs.toList.all free0 = true) ∨ (free0 z = true ∧ z.cells.toList = [z]) := by
 cases z with
 | agg cs => exact .inl ⟨cs, rfl, hz⟩
 | _ => exact .inr ⟨hz, rfl⟩
theorem cells_free0 {z : Value} (hz : free1 z = true) : z.cells.toList.all free0 = true := by
 rcases free1_cases hz with ⟨cs, rfl, hc⟩ | ⟨h0, h1⟩
 ·exact hc
 ·rw [h1]; simp [h0]
theorem cells_free {z : Value} (hz : free1 z = true) : z.cells.toList.all free1 = true := by
 have := cells_free0 hz
 rw [List.all_eq_true] at this ⊢
 exact fun v hv => free0_free1 (this v hv)
theorem bytes_free : ∀ l : List UInt8, (l.map fun b => Value.int .u8 b.toNat).all free1 = true
 | [] => rfl
 | b :: l => by rw [List.map_cons, List.all_cons, bytes_free l]; rfl
theorem newRow_sound (hr : HR β h w) (hw : Wf h) {cells cells' : List Value} (el : TypeId) (hc : VRl β cells cells') :
  HR (upd β h.next ⟨w.heap.size, 0, 0, cells'.length⟩) (newRow h cells).2 (w.alloc (.cells ⟨cells'⟩ el)) ∧ Wf (newRow h cells).2 ∧
  Evo β h w (upd β h.next ⟨w.heap.size, 0, 0, cells'.length⟩) (newRow h cells).2 (w.alloc (.cells ⟨cells'⟩ el)) := by
 have := hr_newRow hr hw cells ⟨cells'⟩ el (by simp [hc.1]) (fun p v hp => by
  have hlt : p < cells'.length := by
   rw [← hc.1]
   rcases Nat.lt_or_ge p cells.length with q | q
   ·exact q
   ·rw [List.getElem?_eq_none q] at hp; cases hp
  exact ⟨cells'[p], by simp [hlt], hc.2 p _ _ hp (List.getElem?_eq_getElem hlt)⟩)
 exact this
theorem box_sound (hr : HR β h w) (hw : Wf h) {t : TypeId} {v v' : Value} (hv : VR β v v') {s : Sem Next} (hs : s.run P w = .ok (.value (.pointer (some ⟨w.heap.size, 0, none⟩))) (w.alloc (.cells v'.cells t))) :
  OkOp P β h w s (AM.newRow h v.cells.toList).1 (AM.newRow h v.cells.toList).2 := by
 obtain ⟨k1, k2, k3⟩ := newRow_sound hr hw t hv.cells
 refine ⟨_, _, _, .inl hs, ?_, k1, k2, k3⟩
 exact .ptr (upd_same _ _ _) (Nat.zero_le _)
theorem slice_new {β : Ren} {id len cap cap' g z : Nat} (hc : CapR ⟨g, 0, 0, z⟩ 0 len cap cap') : VR (upd β id ⟨g, 0, 0, z⟩) (.slice (some ⟨id, 0, none⟩) len cap) (.slice (some ⟨g, 0, none⟩) len cap') :=
 .slice (upd_same _ _ _) (Nat.zero_le _) hc (.inr rfl)
theorem cellsV_sound (hr : HR β h w) (hw : Wf h) {t el : TypeId} {sz m : Nat} {x x' : Value} {cs : List Value} (hu : P.underlying t = some (.slice el)) (hsz : szOf P el = some sz) (hc : cellsV P h t x = some (m, cs)) (hx : VR β x x') :
  (Builtin.lenOf x').run P w = .ok m w ∧ ∃ cs', VRl β cs cs' ∧ (Builtin.firstCells sz m x').run P w = .ok ⟨cs'⟩ w ∧
   (∀ n, n ≤ m → cs.length = m * sz → (Builtin.firstCells sz n x').run P w = .ok ⟨cs'.take (n * sz)⟩ w) := by
 unfold cellsV at hc
 split at hc
 ·rename_i s
  cases hc
  have : x' = .string s := hx.free0_eq rfl
  subst this
  refine ⟨rfl, _, .free (bytes_free _), ?_, fun n hn hl => ?_⟩
  ·have : (s.extract 0 s.size) = s := ByteArray.extract_zero_size
   simp only [Builtin.firstCells, this]
   exact congrArg (Result.ok · w) (Array.ext' (by simp))
  ·have hsz1 : s.size = 0 ∨ sz = 1 := by
    have hl : s.size = s.size * sz := by
     rw [List.length_map, Array.length_toList] at hl
     exact hl
    rcases Nat.eq_zero_or_pos s.size with q | q
    ·exact .inl q
    ·right
     rcases Nat.lt_trichotomy sz 1 with r | r | r
     ·have : sz = 0 := by omega
      subst this; rw [Nat.mul_zero] at hl; omega
     ·exact r
     ·have : s.size * 2 ≤ s.size * sz := Nat.mul_le_mul_left _ r
      omega
   simp only [Builtin.firstCells, Sem.run_pure]
   congr 1
   apply Array.ext_getElem?
   intro i
   rcases hsz1 with q | q
   ·have hn0 : n = 0 := by omega
    subst hn0
    simp
   ·subst q
    simp only [Array.getElem?_map, List.getElem?_toArray, Nat.mul_one]
    have he : (s.extract 0 n).data = s.data.extract 0 n := by
     simp [ByteArray.data_extract]
    rw [he]
    by_cases hi : i < n
    ·rw [List.getElem?_take_of_lt hi]
     simp [Array.getElem?_extract]
     rw [if_pos (by omega)]
    ·have h1 : (s.data.extract 0 n)[i]? = none := Array.getElem?_eq_none (by simp; omega)
     rw [h1, List.getElem?_eq_none (by simp; omega)]
     rfl
 ·cases hc
  have : x' = .slice none 0 0 := hx.free0_eq rfl
  subst this
  exact ⟨rfl, [], .nil, rfl, fun n _ _ => by simp [Builtin.firstCells]⟩
 ·cases hc
  have shape : ∃ a' c', x' = .slice a' 0 c' := by cases hx <;> exact ⟨_, _, rfl⟩
  obtain ⟨a', c', rfl⟩ := shape
  cases a' with
  | none =>
   refine ⟨rfl, [], .nil, rfl, fun n hn _ => ?_⟩
   simp [Builtin.firstCells]
  | some a' =>
   refine ⟨rfl, [], .nil, by simp [Builtin.firstCells, loadCells, loadCellsFrom], fun n hn _ => ?_⟩
   have : n = 0 := by omega
   subst this
   simp [Builtin.firstCells, loadCells, loadCellsFrom]
 ·rename_i id off len cap
  rw [hu] at hc
  simp only [hsz] at hc
  cases hld : loadC h id off (len * sz) with
  | none => rw [hld] at hc; cases hc
  | some cs0 =>
   rw [hld] at hc
   cases hc
   obtain ⟨b, a', cap', hb, hblo, hcr, ha, rfl⟩ := slice_inv hx
   obtain ⟨_, hlen, cs', k1, k2, k3⟩ := hr_load P hr hw hld hb
   have hcl : cs'.length = m * sz := by rw [← k1.1]; exact hlen
   have hload : ∀ n, n ≤ m → (loadCells a' (n * sz)).run P w = .ok ⟨cs'.take (n * sz)⟩ w := by
    intro n hn
    rcases Nat.eq_zero_or_pos (n * sz) with q | q
    ·rw [q]; simp [loadCells, loadCellsFrom]
    ·have hcap := hcr.le
     have hn0 : 0 < n := Nat.pos_of_mul_pos_right q
     have ha' : a' = b.at_ off := ha.resolve_left (by omega)
     subst ha'
     have hle : n * sz ≤ m * sz := Nat.mul_le_mul_right _ hn
     have h1 := run_loadCells_list (P := P) w (b.at_ off) (cs'.take (n * sz)) (fun j v hj => by
      have hjn : j < n * sz := by
       rcases Nat.lt_or_ge j (n * sz) with r | r
       ·exact r
       ·rw [List.getElem?_eq_none (by simp; omega)] at hj; cases hj
      rw [List.getElem?_take_of_lt hjn] at hj
      rw [at_add hblo]
      exact k3 j v hj)
     have h2 : (cs'.take (n * sz)).length = n * sz := by simp; omega
     rwa [h2] at h1
   refine ⟨rfl, cs', k1, ?_, fun n hn _ => ?_⟩
   ·have := hload m (Nat.le_refl _)
    rw [List.take_of_length_le (by omega)] at this
    simpa [Builtin.firstCells] using this
   ·simpa [Builtin.firstCells] using hload n hn
 ·cases hc
end
end Go.AM
namespace Go.AM
set_option linter.unusedSimpArgs false
theorem growBy_le (n : Nat) : ∀ r c, 256 ≤ c → c ≤ 2 * n → Builtin.growBy n r c ≤ 2 * n
 | 0, c, _, h => h
 | r + 1, c, h1, h2 => by
  unfold Builtin.growBy
  split
  ·exact h2
  ·exact growBy_le n r _ (by omega) (by omega)
theorem nextcap_le {n c : Nat} (h : c < n) : Builtin.nextslicecap n c ≤ 2 * n := by
 unfold Builtin.nextslicecap
 split
 ·omega
 ·split
  ·omega
  ·exact growBy_le n 4 c (by omega) (by omega)
section
variable {P : Program} {β : Ren} {h : AH} {w : World} {e : Tr Value} {a : Act}
theorem isInt_run {u : TypeId} (hz : isIntT P u = false) : ∃ d, P.underlying u = some d ∧ (match d with | .int _ => true | _ => false) = false := by
 unfold isIntT at hz
 cases h1 : P.underlying u with
 | none => rw [h1] at hz; cases hz
 | some d =>
  refine ⟨d, rfl, ?_⟩
  rw [h1] at hz
  cases d <;> first | rfl | (simp at hz)
theorem append_fits {tys : Array TypeId} {ty t u el : TypeId} {sz n len cap : Nat} {base : Option Addr} {x : Value} {cs : List Value} {w' : World} (h0 : tys[0]? = some t) (h1 : tys[1]? = some u) (hz : isIntT P u = false)
  (hu : P.underlying t = some (.slice el)) (hsz : szOf P el = some sz) (hlen : (Builtin.lenOf x).run P w = .ok n w) (hc : (Builtin.firstCells sz n x).run P w = .ok ⟨cs⟩ w) (hfit : len + n ≤ cap)
  (hst : match base with | none => w' = w | some a => (storeCells (a.add (len * sz)) cs).run P w = .ok () w') :
  (Builtin.append_ tys ty #[.slice base len cap, x]).run P w = .ok (.slice base (len + n) cap) w' := by
 obtain ⟨d, hd, hd2⟩ := isInt_run hz
 unfold Builtin.append_
 simp only [h0, h1, List.getElem?_toArray, List.getElem?_cons_zero, List.getElem?_cons_succ, Sem.run_bind, run_underlying hu, Result.andThen_ok, run_sz hsz, run_underlying hd, Sem.run_pure]
 split
 ·rename_i k; simp at hd2
 ·cases base with
  | none =>
   simp only [Bool.false_eq_true, if_false, hlen, Sem.run_bind, Result.andThen_ok, Sem.run_ite, if_pos hfit, Bool.not_false, if_true, hc, Sem.run_pure]
   rw [show w' = w from hst]
  | some a => simp only [Bool.false_eq_true, if_false, hlen, Sem.run_bind, Result.andThen_ok, Sem.run_ite, if_pos hfit, Bool.not_false, if_true, hc, Sem.run_pure, hst]
theorem append_grows {tys : Array TypeId} {ty t u el : TypeId} {i : TypeInfo} {z : Value} {n len cap : Nat} {base : Option Addr} {x : Value} {old cs : List Value} (h0 : tys[0]? = some t) (h1 : tys[1]? = some u) (hz : isIntT P u = false)
  (hu : P.underlying t = some (.slice el)) (hi : P.info? el = some i) (hiz : i.zero = some z) (hlen : (Builtin.lenOf x).run P w = .ok n w) (hc : (Builtin.firstCells i.size n x).run P w.drew = .ok ⟨cs⟩ w.drew)
  (ho : (Builtin.firstCells i.size len (.slice base len cap)).run P w.drew = .ok ⟨old⟩ w.drew) (hfit : cap < len + n) (hb : 2 * (len + n) * i.bytes ≤ 281474976710656) (hn : len + n < BIG) :
  ∃ (newCap : Nat) (rest : Array Value), len + n ≤ newCap ∧ rest.size = (newCap - (len + n)) * z.cells.size ∧
  (Builtin.append_ tys ty #[.slice base len cap, x]).run P w = .ok (.slice (some ⟨w.heap.size, 0, none⟩) (len + n) newCap) (w.drew.alloc (.cells (⟨old⟩ ++ ⟨cs⟩ ++ rest) el)) := by
 obtain ⟨d, hd, hd2⟩ := isInt_run hz
 have hnext : ¬ Builtin.nextslicecap (len + n) cap * i.bytes > 2 ^ 48 := by
  have := Nat.mul_le_mul_right i.bytes (nextcap_le hfit)
  omega
 have hbig : ¬ ((len + n : Nat) : Int) > IntKind.i64.max := by
  have : IntKind.i64.max = 9223372036854775807 := by decide
  unfold BIG at hn
  omega
 refine ⟨(Question.appendCap (len + n) cap el).cut (w.tape w.drawn (.appendCap (len + n) cap el)), Builtin.zeroCells z.cells ((Question.appendCap (len + n) cap el).cut (w.tape w.drawn (.appendCap (len + n) cap el)) - (len + n)), by simp [Question.cut], by simp [Builtin.zeroCells], ?_⟩
 unfold Builtin.append_
 simp only [h0, h1, List.getElem?_toArray, List.getElem?_cons_zero, List.getElem?_cons_succ, Sem.run_bind, run_underlying hu, Result.andThen_ok, run_sz (show szOf P el = some i.size by simp [szOf, hi]), run_underlying hd]
 have hq : (Question.appendCap (len + n) cap el).forced = false := rfl
 have hfit' : ¬ len + n ≤ cap := by omega
 have hw : w.drew.heap.size = w.heap.size := rfl
 change (Builtin.firstCells i.size n x).run P { w with drawn := w.drawn + 1 } = .ok ⟨cs⟩ { w with drawn := w.drawn + 1 } at hc
 change (Builtin.firstCells i.size len (.slice base len cap)).run P { w with drawn := w.drawn + 1 } = .ok ⟨old⟩ { w with drawn := w.drawn + 1 } at ho
 have hzv : ∀ W, (zeroValue el).run P W = .ok z W := fun W => run_zeroV (by simp [hi, hiz])
 simp only [Sem.run_pure, Result.andThen_ok]
 split
 ·rename_i k; simp at hd2
 ·simp only [Bool.false_eq_true, if_false, hlen, Sem.run_bind, Result.andThen_ok, Sem.run_ite, if_neg hfit', Bool.not_false, if_true, run_info hi, hbig, false_and, if_neg hnext, run_choose, hq, run_askRoom, ho, hc, hzv, Sem.run_pure]
  rfl
theorem HR.drew (hr : HR β h w) : HR β h w.drew := ⟨hr.dom, fun id x f a b => (hr.row id x f a b).mono (.refl _) rfl, hr.map, hr.loop, hr.disj⟩
theorem Evo.of_drew {β' : Ren} {h' : AH} {w' : World} (e : Evo β h w.drew β' h' w') : Evo β h w β' h' w' :=
 ⟨e.sub, e.new, e.all, e.blk, e.size, e.os, e.tape, e.output, e.frame, e.next, e.wr, e.root, e.ro, e.objs⟩
theorem append_gen (hr : HR β h w) (hw : Wf h) {tys : Array TypeId} {ty t el : TypeId} {s s' x' v : Value} {m : Nat} {cs cs' cs'' : List Value} {h' : AH} (hu : P.underlying t = some (.slice el)) (ha : appendV P h t s m cs = some (v, h')) (hs : VR β s s') (k2 : VRl β cs cs') (k4 : VRl β cs cs'')
  (hfits : ∀ {i : TypeInfo} {base : Option Addr} {len cap : Nat} {w' : World}, P.info? el = some i → len + m ≤ cap → (match base with | none => w' = w | some a => (storeCells (a.add (len * i.size)) cs').run P w = .ok () w') → (Builtin.append_ tys ty #[.slice base len cap, x']).run P w = .ok (.slice base (len + m) cap) w')
  (hgrows : ∀ {i : TypeInfo} {z : Value} {base : Option Addr} {len cap : Nat} {old : List Value}, P.info? el = some i → i.zero = some z → (Builtin.firstCells i.size len (.slice base len cap)).run P w.drew = .ok ⟨old⟩ w.drew → cap < len + m → 2 * (len + m) * i.bytes ≤ 281474976710656 → len + m < BIG →
   ∃ (newCap : Nat) (rest : Array Value), len + m ≤ newCap ∧ rest.size = (newCap - (len + m)) * z.cells.size ∧ (Builtin.append_ tys ty #[.slice base len cap, x']).run P w = .ok (.slice (some ⟨w.heap.size, 0, none⟩) (len + m) newCap) (w.drew.alloc (.cells (⟨old⟩ ++ ⟨cs''⟩ ++ rest) el))) :
  ∃ v' w' β', (Builtin.append_ tys ty #[s', x']).run P w = .ok v' w' ∧ VR β' v v' ∧ HR β' h' w' ∧ Wf h' ∧ Evo β h w β' h' w' := by
 unfold appendV at ha
 split at ha
 case h_2 => cases ha
 rename_i el' base len cap hu'
 rw [hu] at hu'
 cases hu'
 cases hi : P.info? el with
 | none => rw [hi] at ha; cases ha
 | some i =>
 rw [hi] at ha
 simp only at ha
 split at ha
 case isFalse => cases ha
 rename_i hcond
 obtain ⟨c1, c2, c3, c4, c5, c6⟩ := hcond
 obtain ⟨z, hiz, hzsz⟩ : ∃ z, i.zero = some z ∧ z.cells.size = i.size := by
  cases hq : i.zero with
  | none => rw [hq] at c6; cases c6
  | some z => rw [hq] at c6; exact ⟨z, rfl, by simpa using c6⟩
 have hsz : szOf P el = some i.size := by simp [szOf, hi]
 have hl' : cs'.length = m * i.size := by rw [← k2.1]; exact c2
 -- the shapes of s'
 by_cases hm : m = 0
 ·-- nothing is appended
  rw [if_pos hm] at ha
  cases ha
  subst hm
  have hcs' : cs' = [] := List.eq_nil_of_length_eq_zero (by simpa using hl')
  subst hcs'
  have hsome : ∀ {a' : Addr} {len cap' : Nat}, len ≤ cap' → (Builtin.append_ tys ty #[.slice (some a') len cap', x']).run P w = .ok (.slice (some a') len cap') w := by
   intro a' len cap' hle
   have := hfits (base := some a') (len := len) (cap := cap') (w' := w) hi (by omega) rfl
   simpa using this
  cases hs with
  | free v hf =>
   cases base with
   | some _ => simp [free0] at hf
   | none =>
    have hlc : len = 0 ∧ cap = 0 := by
     cases len <;> cases cap <;> simp [free0] at hf <;> exact ⟨rfl, rfl⟩
    obtain ⟨rfl, rfl⟩ := hlc
    refine ⟨.slice none 0 0, w, β, ?_, .free _ rfl, hr, hw, .refl _ _ _⟩
    have := hfits (base := none) (len := 0) (cap := 0) (w' := w) hi (by omega) rfl
    simpa using this
  | slice q1 q2 q3 q4 => exact ⟨_, w, β, hsome q3.le, .slice q1 q2 q3 q4, hr, hw, .refl _ _ _⟩
  | empty =>
   rename_i a' c'
   cases a' with
   | some a' => exact ⟨_, w, β, hsome (Nat.zero_le _), .empty, hr, hw, .refl _ _ _⟩
   | none =>
    refine ⟨.slice none 0 c', w, β, ?_, .empty, hr, hw, .refl _ _ _⟩
    have := hfits (base := none) (len := 0) (cap := c') (w' := w) hi (by omega) rfl
    simpa using this
 rw [if_neg hm] at ha
 have hnew : ∀ {old old' : List Value} {len' : Nat} {rest : Array Value}, VRl β old old' → VR (upd β h.next ⟨w.heap.size, 0, 0, ((⟨old'⟩ : Array Value) ++ ⟨cs''⟩ ++ rest).size⟩) (.pointer (some ⟨h.next, 0, none⟩)) (.pointer (some ⟨w.heap.size, 0, none⟩)) ∧
   HR (upd β h.next ⟨w.heap.size, 0, 0, ((⟨old'⟩ : Array Value) ++ ⟨cs''⟩ ++ rest).size⟩) (newRow h (old ++ cs)).2 (w.drew.alloc (.cells (⟨old'⟩ ++ ⟨cs''⟩ ++ rest) el)) ∧ Wf (newRow h (old ++ cs)).2 ∧
   Evo β h w (upd β h.next ⟨w.heap.size, 0, 0, ((⟨old'⟩ : Array Value) ++ ⟨cs''⟩ ++ rest).size⟩) (newRow h (old ++ cs)).2 (w.drew.alloc (.cells (⟨old'⟩ ++ ⟨cs''⟩ ++ rest) el)) := by
  intro old old' len' rest hold
  have happ := hold.append k4
  have := hr_newRow (w := w.drew) hr.drew hw (old ++ cs) (⟨old'⟩ ++ ⟨cs''⟩ ++ rest) el (by simp [hold.1, k4.1]) (fun p v hp => by
   have hlt : p < (old' ++ cs'').length := by
    rw [← happ.1]
    rcases Nat.lt_or_ge p (old ++ cs).length with q | q
    ·exact q
    ·rw [List.getElem?_eq_none q] at hp; cases hp
   have e1 : ((⟨old'⟩ : Array Value) ++ ⟨cs''⟩ ++ rest)[p]? = (old' ++ cs'')[p]? := by
    rw [← Array.getElem?_toList]
    simp only [Array.toList_append]
    rw [List.getElem?_append_left hlt]
   rw [e1]
   exact ⟨_, List.getElem?_eq_getElem hlt, happ.2 p _ _ hp (List.getElem?_eq_getElem hlt)⟩)
  exact ⟨.ptr (upd_same _ _ _) (Nat.zero_le _), this.1, this.2.1, this.2.2.of_drew⟩
 have hzs : ∀ {old' : List Value} {N newCap : Nat} {rest : Array Value}, old'.length = N * i.size → N + m ≤ newCap → rest.size = (newCap - (N + m)) * z.cells.size → z.cells.size = i.size →
   CapR ⟨w.heap.size, 0, 0, ((⟨old'⟩ : Array Value) ++ ⟨cs''⟩ ++ rest).size⟩ 0 (N + m) (N + m + i.size) newCap := by
  intro old' N newCap rest q1 q2 q3 q4
  refine .inr ⟨i.size, c1, rfl, q2, ?_⟩
  have : cs''.length = m * i.size := by rw [← k4.1]; exact c2
  simp only [Array.size_append, List.size_toArray, q1, this, q3, q4, Nat.zero_add, Nat.sub_zero]
  rw [← Nat.add_mul, ← Nat.add_mul]
  exact Nat.mul_le_mul_right _ (by omega)
 have hoc : cs'.all oneC = true := all_oneC k2 c5
 -- the old cells, out of the abstract heap
 have hold : ∀ {id off : Nat} {old : List Value} {x : Bx} {a' : Addr} {cap' : Nat}, loadC h id off (len * i.size) = some old → β id = some x → (len = 0 ∨ a' = x.at_ off) →
   ∃ old', VRl β old old' ∧ old'.length = len * i.size ∧ (Builtin.firstCells i.size len (.slice (some a') len cap')).run P w.drew = .ok ⟨old'⟩ w.drew := by
  intro id off old x a' cap' q1 q2 q3
  obtain ⟨_, p1, old', p2, p3, _⟩ := hr_load (w := w.drew) P hr.drew hw q1 q2
  refine ⟨old', p2, by rw [← p2.1]; exact p1, ?_⟩
  rcases q3 with q3 | q3
  ·subst q3
   have : old' = [] := List.eq_nil_of_length_eq_zero (by rw [← p2.1, p1]; simp)
   subst this
   simp [Builtin.firstCells, loadCells, loadCellsFrom]
  ·subst q3
   simpa [Builtin.firstCells] using p3
 cases base with
 | none =>
  simp only at ha
  split at ha
  case isFalse => cases ha
  rename_i hq
  obtain ⟨rfl, rfl⟩ := hq
  cases ha
  have : s' = .slice none 0 0 := hs.free0_eq rfl
  subst this
  obtain ⟨newCap, rest, q1, q2, q3⟩ := hgrows (base := none) (len := 0) (cap := 0) (old := []) hi hiz (by simp [Builtin.firstCells]) (by omega) c3 c4
  obtain ⟨p1, p2, p3, p4⟩ := hnew (old := []) (old' := []) (len' := 0) (rest := rest) .nil
  refine ⟨_, _, _, q3, ?_, p2, p3, p4⟩
  rw [Nat.zero_add]
  have := hzs (old' := []) (N := 0) (newCap := newCap) (rest := rest) (by simp) q1 q2 hzsz
  rw [Nat.zero_add] at this
  exact slice_new this
 | some ad =>
  obtain ⟨id, off, spot⟩ := ad
  cases spot with
  | some _ => cases ha
  | none =>
  simp only at ha
  cases hld : loadC h id off (len * i.size) with
  | none => rw [hld] at ha; cases ha
  | some old =>
  rw [hld] at ha
  simp only at ha
  obtain ⟨b, a', cap', hb, hblo, hcr, haddr, rfl⟩ := slice_inv hs
  split at ha
  ·-- the capacity is the length: a new row
   rename_i hcap
   cases ha
   have hc' : cap' = len := by
    rcases hcr with ⟨_, q⟩ | ⟨e, q1, q2, _⟩
    ·exact q
    ·omega
   subst hc'
   obtain ⟨old', o1, o2, o3⟩ := hold (a' := a') (cap' := cap') hld hb haddr
   obtain ⟨newCap, rest, q1, q2, q3⟩ := hgrows hi hiz o3 (by omega) c3 c4
   obtain ⟨p1, p2, p3, p4⟩ := hnew (len' := 0) (rest := rest) o1
   exact ⟨_, _, _, q3, slice_new (hzs o2 q1 q2 hzsz), p2, p3, p4⟩
  ·rename_i hcap
   split at ha
   case isFalse => cases ha
   rename_i hcap2
   cases hf : h.fam id with
   | none => rw [hf] at ha; cases ha
   | some f =>
   rw [hf] at ha
   simp only at ha
   split at ha
   case isTrue => cases ha
   rename_i hro
   have hro : f.ro = false := by simpa using hro
   obtain ⟨n0, hroot⟩ := fam_root hf
   rw [hroot] at ha
   simp only [Option.some.injEq, Prod.mk.injEq] at ha
   obtain ⟨ha1, ha2⟩ := ha
   have hcle := hcr.le
   obtain ⟨e', e1, e2, e3, e4⟩ : ∃ e', 0 < e' ∧ cap = len + e' ∧ len ≤ cap' ∧ b.s + (off - b.lo) + cap' * e' ≤ b.z := by
    rcases hcr with ⟨q, _⟩ | q
    ·omega
    ·exact q
   have : e' = i.size := by omega
   subst this
   have hbounds : f.lo ≤ off ∧ off + len * i.size ≤ f.rb id := by
    unfold loadC at hld
    rw [hf] at hld
    simp only at hld
    split at hld
    ·assumption
    ·cases hld
   obtain ⟨r1, c, elc, fz, r2, r3, r4, r5⟩ := hr.row _ _ _ hb hf
   obtain ⟨r6, r7⟩ := r5 hro
   have hN : off + len * i.size ≤ f.data.length := by
    have := hbounds.2
    unfold Fam.rb at this
    split at this
    ·have := hw.curn _ _ hf ‹_›; omega
    ·have := hw.stale _ _ hf ‹_›; omega
   by_cases hfit : len + m ≤ cap'
   ·-- in place
    have ha' : a' = b.at_ off := haddr.resolve_left (by omega)
    subst ha'
    have hmul : len * i.size + m * i.size ≤ cap' * i.size := by rw [← Nat.add_mul]; exact Nat.mul_le_mul_right _ hfit
    obtain ⟨w', s1, s2⟩ := run_stores P b.g elc fz (b.s + (off + len * i.size - b.lo)) cs' 0 w c r2 r6 (by omega) hoc
    have hadd : (b.at_ off).add (len * i.size) = ⟨b.g, b.s + (off + len * i.size - b.lo), none⟩ := at_add hblo
    have hrun := hfits (base := some (b.at_ off)) (len := len) (cap := cap') (w' := w') hi hfit (show (storeCells ((b.at_ off).add (len * i.size)) cs').run P w = .ok () w' by rw [hadd]; exact s1)
    obtain ⟨c', t1, t2, t3⟩ := s2.ex _ _ _ r2
    have hal := hr_alias (w' := w') hr hw (pos := off + len * i.size) (news := cs) (y := ⟨b.g, b.s + (off - b.lo), off, b.z⟩) hf hro hb hroot hbounds.1 (by omega) hbounds.2 rfl
     ⟨c', elc, fz, t1, by rw [t2]; exact r3, by rw [t2]; exact r6, by simp only; rw [c2]; omega, fun p v p1 p2 p3 => by
      simp only
      by_cases hp : p < off + len * i.size
      ·rw [List.getElem?_append_left (by simp; omega), List.getElem?_take_of_lt hp] at p3
       obtain ⟨v', m1, m2⟩ := r4 p v (by omega) (by omega) p3
       refine ⟨v', ?_, m2⟩
       rw [t3, if_neg (by omega), show b.s + (off - b.lo) + (p - off) = b.s + (p - b.lo) by omega]
       exact m1
      ·rw [List.getElem?_append_right (by simp; omega)] at p3
       have hlt : (List.take (off + len * i.size) f.data).length = off + len * i.size := by simp; omega
       rw [hlt] at p3
       have hlt2 : p - (off + len * i.size) < cs'.length := by rw [← k2.1]; omega
       refine ⟨cs'[p - (off + len * i.size)], ?_, k2.2 _ _ _ p3 (List.getElem?_eq_getElem hlt2)⟩
       rw [t3, if_pos (by omega), show b.s + (off - b.lo) + (p - off) - (b.s + (off + len * i.size - b.lo) + 0) = p - (off + len * i.size) by omega]
       exact List.getElem?_eq_getElem hlt2⟩
     (.inr ⟨rfl, by simp only; omega, cs', by simpa using s2⟩)
     (by simp only; rw [s2.size]; exact (hr.dom _ _ hb).2) (Nat.le_of_eq s2.size.symm) s2.os s2.tape s2.output
    subst ha1; subst ha2
    refine ⟨_, w', _, hrun, ?_, hal.1, hal.2.1, hal.2.2⟩
    refine .slice (upd_same _ _ _) (Nat.le_refl _) (.inr ⟨i.size, c1, rfl, hfit, by simp only; omega⟩) (.inr ?_)
    simp [Bx.at_]
   ·-- a new block
    obtain ⟨old', o1, o2, o3⟩ := hold (a' := a') (cap' := cap') hld hb (by
     rcases haddr with q | q
     ·left; omega
     ·exact .inr q)
    obtain ⟨newCap, rest, q1, q2, q3⟩ := hgrows hi hiz o3 (by omega) c3 c4
    have hcs'' : cs''.length = m * i.size := by rw [← k4.1]; exact c2
    have hsize : ((⟨old'⟩ : Array Value) ++ ⟨cs''⟩ ++ rest).size = newCap * i.size := by
     simp only [Array.size_append, List.size_toArray, o2, hcs'', q2, hzsz]
     rw [← Nat.add_mul, ← Nat.add_mul]
     congr 1
     omega
    have hge : (len + m) * i.size ≤ newCap * i.size := Nat.mul_le_mul_right _ q1
    have hdat : loadC h id off (len * i.size) = some ((f.data.drop off).take (len * i.size)) := by
     unfold loadC; rw [hf]; simp only; rw [if_pos hbounds]
    rw [hld] at hdat
    cases hdat
    have hal := hr_alias (w' := w.drew.alloc (.cells (⟨old'⟩ ++ ⟨cs''⟩ ++ rest) el)) hr hw (pos := off + len * i.size) (news := cs) (y := ⟨w.heap.size, 0, off, ((⟨old'⟩ : Array Value) ++ ⟨cs''⟩ ++ rest).size⟩) hf hro hb hroot hbounds.1 (by omega) hbounds.2 rfl
     ⟨_, el, (0, 0), heap_new (w := w.drew), rfl, fun p _ q => by simp at q, by simp only; rw [hsize, c2]; rw [Nat.add_mul] at hge; omega, fun p v p1 p2 p3 => by
      simp only
      have e1 : ((⟨old'⟩ : Array Value) ++ ⟨cs''⟩ ++ rest)[0 + (p - off)]? = (old' ++ cs'')[p - off]? := by
       rw [← Array.getElem?_toList, Nat.zero_add]
       simp only [Array.toList_append]
       rw [List.getElem?_append_left (by simp; omega)]
      rw [e1]
      by_cases hp : p < off + len * i.size
      ·rw [List.getElem?_append_left (by simp; omega), List.getElem?_take_of_lt hp] at p3
       have hlt : p - off < old'.length := by omega
       rw [List.getElem?_append_left hlt]
       refine ⟨_, List.getElem?_eq_getElem hlt, o1.2 (p - off) _ _ ?_ (List.getElem?_eq_getElem hlt)⟩
       rw [List.getElem?_take_of_lt (by omega), List.getElem?_drop, show off + (p - off) = p by omega]
       exact p3
      ·rw [List.getElem?_append_right (by simp; omega)] at p3
       have hlt : (List.take (off + len * i.size) f.data).length = off + len * i.size := by simp; omega
       rw [hlt] at p3
       rw [List.getElem?_append_right (by omega), o2, show p - off - len * i.size = p - (off + len * i.size) by omega]
       have hlt2 : p - (off + len * i.size) < cs''.length := by rw [← k4.1]; omega
       exact ⟨_, List.getElem?_eq_getElem hlt2, k4.2 _ _ _ p3 (List.getElem?_eq_getElem hlt2)⟩⟩
     (.inl ⟨Nat.le_refl _, fun b hb => heap_old (w := w.drew) hb⟩)
     (by simp) (by simp) rfl rfl rfl
    subst ha1; subst ha2
    refine ⟨_, _, _, q3, ?_, hal.1, hal.2.1, hal.2.2⟩
    refine .slice (upd_same _ _ _) (Nat.le_refl _) (.inr ⟨i.size, c1, rfl, q1, by simp only; rw [hsize]; omega⟩) (.inr ?_)
    simp [Bx.at_]
theorem append_sound (hr : HR β h w) (hw : Wf h) {tys : Array TypeId} {ty t u : TypeId} {s s' x x' v : Value} {m : Nat} {cs : List Value} {h' : AH} (h0 : tys[0]? = some t) (h1 : tys[1]? = some u) (hz : isIntT P u = false)
  (hc : cellsV P h t x = some (m, cs)) (ha : appendV P h t s m cs = some (v, h')) (hs : VR β s s') (hx : VR β x x') :
  ∃ v' w' β', (Builtin.append_ tys ty #[s', x']).run P w = .ok v' w' ∧ VR β' v v' ∧ HR β' h' w' ∧ Wf h' ∧ Evo β h w β' h' w' := by
 have ha' := ha
 unfold appendV at ha'
 split at ha'
 case h_2 => cases ha'
 rename_i el base len cap hu
 clear ha'
 obtain ⟨i, hi⟩ : ∃ i, P.info? el = some i := by
  unfold appendV at ha
  rw [hu] at ha
  cases hq : P.info? el with
  | none => simp only [hq] at ha; cases ha
  | some i => exact ⟨i, rfl⟩
 have hsz : szOf P el = some i.size := by simp [szOf, hi]
 obtain ⟨k1, cs', k2, k3, _⟩ := cellsV_sound hr hw hu hsz hc hx
 obtain ⟨_, cs'', k4, k5, _⟩ := cellsV_sound (w := w.drew) hr.drew hw hu hsz hc hx
 refine append_gen hr hw hu ha hs k2 k4 (fun {_ base _ _ _} hi' hfit hst => ?_) (fun hi' hiz ho hfit hb hn => ?_)
 ·rw [hi] at hi'
  cases hi'
  exact append_fits h0 h1 hz hu hsz k1 k3 hfit (by cases base <;> exact hst)
 ·rw [hi] at hi'
  cases hi'
  exact append_grows h0 h1 hz hu hi hiz k1 k5 ho hfit hb hn
theorem appended_run {el : TypeId} {z : Value} {sz n : Nat} {W : World} (hz : (zeroValue el).run P W = .ok z W) (hs : z.cells.size = sz) (h0 : 0 < sz) :
  (if n * sz = 0 then (pure #[] : Sem (Array Value)) else do pure (Builtin.zeroCells (← zeroValue el).cells n)).run P W = .ok ⟨zerosC z.cells.toList n⟩ W := by
 split
 ·rename_i hn
  have : n = 0 := by
   rcases Nat.eq_zero_or_pos n with q | q
   ·exact q
   ·have := Nat.mul_pos q h0; omega
  subst this
  rfl
 ·simp only [Sem.run_bind, hz, Result.andThen_ok, Sem.run_pure]
  have : Builtin.zeroCells z.cells n = ⟨zerosC z.cells.toList n⟩ := by
   unfold Builtin.zeroCells
   rw [hs]
   have := zeros_range (z := z.cells) (n := n) hs h0
   rw [hs] at this
   exact this
  rw [this]
theorem append_fitsZ {tys : Array TypeId} {ty t u el : TypeId} {k0 : IntKind} {i : TypeInfo} {z : Value} {len cap : Nat} {base : Option Addr} {n : Int} {w' : World} (h0 : tys[0]? = some t) (h1 : tys[1]? = some u) (hui : P.underlying u = some (.int k0))
  (hu : P.underlying t = some (.slice el)) (hi : P.info? el = some i) (hiz : i.zero = some z) (hzs : z.cells.size = i.size) (hp : 0 < i.size) (hn0 : 0 ≤ n) (hn1 : n ≤ 4611686018427387904) (hn2 : n * i.bytes ≤ 281474976710656) (hfit : len + n.toNat ≤ cap)
  (hst : match base with | none => w' = w | some a => (storeCells (a.add (len * i.size)) (zerosC z.cells.toList n.toNat)).run P w = .ok () w') :
  (Builtin.append_ tys ty #[.slice base len cap, .int .i64 n]).run P w = .ok (.slice base (len + n.toNat) cap) w' := by
 have hwr : IntKind.i64.wrap n = n := IntWalk.i64_in _ (by omega)
 have has : ∀ W, (asInt (.int .i64 n)).run P W = .ok n W := fun W => rfl
 have hzv : ∀ W, (zeroValue el).run P W = .ok z W := fun W => run_zeroV (by simp [hi, hiz])
 have hap := fun W => appended_run (P := P) (n := n.toNat) (hzv W) hzs hp
 have hl : ¬ n < 0 := by omega
 have hb : ¬ n * (i.bytes : Int) > 2 ^ 48 := by omega
 unfold Builtin.append_
 simp only [h0, h1, List.getElem?_toArray, List.getElem?_cons_zero, List.getElem?_cons_succ, Sem.run_bind, run_underlying hu, Result.andThen_ok, run_sz (show szOf P el = some i.size by simp [szOf, hi]), run_underlying hui, Sem.run_pure]
 cases base with
 | none =>
  simp only [if_true, has, hwr, Result.andThen_ok, Sem.run_bind, Sem.run_ite, if_neg hl, Sem.run_pure, run_info hi, if_neg hb, if_pos hfit, Bool.not_true, Bool.false_eq_true, if_false]
  have := hap w
  simp only [Sem.run_ite, Sem.run_bind, Sem.run_pure] at this
  rw [this]
  simp only [Result.andThen_ok, Sem.run_pure]
  rw [show w' = w from hst]
 | some a =>
  simp only [if_true, has, hwr, Result.andThen_ok, Sem.run_bind, Sem.run_ite, if_neg hl, Sem.run_pure, run_info hi, if_neg hb, if_pos hfit, Bool.not_true, Bool.false_eq_true, if_false]
  have := hap w
  simp only [Sem.run_ite, Sem.run_bind, Sem.run_pure] at this
  rw [this]
  simp only [Result.andThen_ok, Sem.run_bind, hst, Sem.run_pure]
theorem append_growsZ {tys : Array TypeId} {ty t u el : TypeId} {k0 : IntKind} {i : TypeInfo} {z : Value} {len cap : Nat} {base : Option Addr} {n : Int} {old : List Value} (h0 : tys[0]? = some t) (h1 : tys[1]? = some u) (hui : P.underlying u = some (.int k0))
  (hu : P.underlying t = some (.slice el)) (hi : P.info? el = some i) (hiz : i.zero = some z) (hzs : z.cells.size = i.size) (hp : 0 < i.size) (hn0 : 0 ≤ n) (hn1 : n ≤ 4611686018427387904) (hn2 : n * i.bytes ≤ 281474976710656)
  (ho : (Builtin.firstCells i.size len (.slice base len cap)).run P w.drew = .ok ⟨old⟩ w.drew) (hfit : cap < len + n.toNat) (hb : 2 * (len + n.toNat) * i.bytes ≤ 281474976710656) (hn : len + n.toNat < BIG) :
  ∃ (newCap : Nat) (rest : Array Value), len + n.toNat ≤ newCap ∧ rest.size = (newCap - (len + n.toNat)) * z.cells.size ∧
  (Builtin.append_ tys ty #[.slice base len cap, .int .i64 n]).run P w = .ok (.slice (some ⟨w.heap.size, 0, none⟩) (len + n.toNat) newCap) (w.drew.alloc (.cells (⟨old⟩ ++ ⟨zerosC z.cells.toList n.toNat⟩ ++ rest) el)) := by
 have hwr : IntKind.i64.wrap n = n := IntWalk.i64_in _ (by omega)
 have has : ∀ W, (asInt (.int .i64 n)).run P W = .ok n W := fun W => rfl
 have hzv : ∀ W, (zeroValue el).run P W = .ok z W := fun W => run_zeroV (by simp [hi, hiz])
 have hap := fun W => appended_run (P := P) (n := n.toNat) (hzv W) hzs hp
 have hl : ¬ n < 0 := by omega
 have hb1 : ¬ n * (i.bytes : Int) > 2 ^ 48 := by omega
 have hnext : ¬ Builtin.nextslicecap (len + n.toNat) cap * i.bytes > 2 ^ 48 := by
  have := Nat.mul_le_mul_right i.bytes (nextcap_le hfit)
  omega
 have hbig : ¬ ((len + n.toNat : Nat) : Int) > IntKind.i64.max := by
  have : IntKind.i64.max = 9223372036854775807 := by decide
  unfold BIG at hn
  omega
 refine ⟨(Question.appendCap (len + n.toNat) cap el).cut (w.tape w.drawn (.appendCap (len + n.toNat) cap el)), Builtin.zeroCells z.cells ((Question.appendCap (len + n.toNat) cap el).cut (w.tape w.drawn (.appendCap (len + n.toNat) cap el)) - (len + n.toNat)), by simp [Question.cut], by simp [Builtin.zeroCells], ?_⟩
 unfold Builtin.append_
 simp only [h0, h1, List.getElem?_toArray, List.getElem?_cons_zero, List.getElem?_cons_succ, Sem.run_bind, run_underlying hu, Result.andThen_ok, run_sz (show szOf P el = some i.size by simp [szOf, hi]), run_underlying hui]
 have hq : (Question.appendCap (len + n.toNat) cap el).forced = false := rfl
 have hfit' : ¬ len + n.toNat ≤ cap := by omega
 change (Builtin.firstCells i.size len (.slice base len cap)).run P { w with drawn := w.drawn + 1 } = .ok ⟨old⟩ { w with drawn := w.drawn + 1 } at ho
 have hap2 := hap { w with drawn := w.drawn + 1 }
 simp only [Sem.run_ite, Sem.run_bind, Sem.run_pure] at hap2
 simp only [Sem.run_pure, Result.andThen_ok]
 simp only [if_true, has, hwr, Sem.run_bind, Result.andThen_ok, Sem.run_ite, if_neg hl, Sem.run_pure, run_info hi, if_neg hb1, if_neg hfit', hbig, false_and, if_neg hnext, run_choose, hq, run_askRoom, ho, Bool.not_true, Bool.false_eq_true, if_false]
 rw [hap2]
 simp only [Result.andThen_ok, Sem.run_bind, hzv, Sem.run_pure]
 rfl
theorem append_soundZ (hr : HR β h w) (hw : Wf h) {tys : Array TypeId} {ty t u : TypeId} {s s' x x' v : Value} {m : Nat} {cs : List Value} {h' : AH} (h0 : tys[0]? = some t) (h1 : tys[1]? = some u)
  (hc : zerosV P t u x = some (m, cs)) (ha : appendV P h t s m cs = some (v, h')) (hs : VR β s s') (hx : VR β x x') :
  ∃ v' w' β', (Builtin.append_ tys ty #[s', x']).run P w = .ok v' w' ∧ VR β' v v' ∧ HR β' h' w' ∧ Wf h' ∧ Evo β h w β' h' w' := by
 unfold zerosV at hc
 split at hc
 case h_2 => cases hc
 rename_i k0 el n hui hu
 split at hc
 case h_2 => cases hc
 rename_i i hi
 split at hc
 case h_2 => cases hc
 rename_i z hiz
 split at hc
 case isFalse => cases hc
 rename_i hcond
 obtain ⟨q0, q1, q2, q3⟩ := hcond
 cases hc
 have e : x' = .int .i64 n := hx.free0_eq rfl
 subst e
 obtain ⟨hp, hzs⟩ : 0 < i.size ∧ z.cells.size = i.size := by
  unfold appendV at ha
  rw [hu] at ha
  cases s with
  | slice base len cap =>
   simp only [hi] at ha
   split at ha
   case isFalse => cases ha
   rename_i hcd
   refine ⟨hcd.1, ?_⟩
   have := hcd.2.2.2.2.2
   rw [hiz] at this
   simpa using this
  | _ => simp at ha
 refine append_gen hr hw hu ha hs (VRl.free (zerosC_free (cells_free q0) n.toNat)) (VRl.free (zerosC_free (cells_free q0) n.toNat)) (fun {_ base _ _ _} hi' hfit hst => ?_) (fun hi' hiz' ho hfit hb hn => ?_)
 ·rw [hi] at hi'
  cases hi'
  exact append_fitsZ h0 h1 hui hu hi hiz hzs hp q1 q2 q3 hfit (by cases base <;> exact hst)
 ·rw [hi] at hi'
  cases hi'
  rw [hiz] at hiz'
  cases hiz'
  exact append_growsZ h0 h1 hui hu hi hiz hzs hp q1 q2 q3 ho hfit hb hn
end
end Go.AM
namespace Go.AM
section
variable {P : Program} {β : Ren} {h : AH} {w : World} {e : Tr Value} {a : Act}
def FindR (β : Ren) : Option (Nat × Value) → Option (Nat × Value) → Prop
 | none, none => True
 | some (i, v), some (i', v') => i' = i ∧ VR β v v'
 | _, _ => False
theorem findNow_es {d : TypeDesc} {k : Value} : ∀ {es es' : List MapEntry} {n : Nat} {r : Option (Nat × Value)}, EsR β es es' → Instr.findNow d k es n = some r →
  ∃ r', Instr.findNow d k es' n = some r' ∧ FindR β r r'
 | [], [], n, r, _, hf => by cases hf; exact ⟨none, rfl, trivial⟩
 | [], _ :: _, _, _, h, _ => by have := h.1; simp at this
 | _ :: _, [], _, _, h, _ => by have := h.1; simp at this
 | x :: es, x' :: es', n, r, hes, hf => by
  have hx := hes.2 0 x x' rfl rfl
  have ht : EsR β es es' := ⟨by simpa using hes.1, fun i p q a b => hes.2 (i + 1) p q (by simpa using a) (by simpa using b)⟩
  simp only [Instr.findNow, hx.key] at hf ⊢
  split at hf
  ·cases hf
   exact ⟨_, rfl, rfl, hx.val⟩
  ·exact findNow_es ht hf
  ·cases hf
theorem findNow_none {d : TypeDesc} {k : Value} : ∀ {es es' : List MapEntry} {n : Nat}, EsR β es es' → Instr.findNow d k es n = none → Instr.findNow d k es' n = none
 | [], [], n, _, hf => by cases hf
 | [], _ :: _, _, h, _ => by have := h.1; simp at this
 | _ :: _, [], _, h, _ => by have := h.1; simp at this
 | x :: es, x' :: es', n, hes, hf => by
  have hx := hes.2 0 x x' rfl rfl
  have ht : EsR β es es' := ⟨by simpa using hes.1, fun i p q a b => hes.2 (i + 1) p q (by simpa using a) (by simpa using b)⟩
  simp only [Instr.findNow, hx.key] at hf ⊢
  split at hf
  ·cases hf
  ·exact findNow_none ht hf
  ·rfl
theorem findAsking_es {kt : TypeId} {k : Value} : ∀ {es es' : List MapEntry} {n : Nat} {r : Option (Nat × Value)}, EsR β es es' → quick P (Instr.findAsking kt k es n) = some r →
  ∃ r', quick P (Instr.findAsking kt k es' n) = some r' ∧ FindR β r r'
 | [], [], n, r, _, hf => by cases hf; exact ⟨none, rfl, trivial⟩
 | [], _ :: _, _, _, h, _ => by have := h.1; simp at this
 | _ :: _, [], _, _, h, _ => by have := h.1; simp at this
 | x :: es, x' :: es', n, r, hes, hf => by
  have hx := hes.2 0 x x' rfl rfl
  have ht : EsR β es es' := ⟨by simpa using hes.1, fun i p q a b => hes.2 (i + 1) p q (by simpa using a) (by simpa using b)⟩
  simp only [Instr.findAsking, hx.key, quick_bind, Option.bind_eq_some_iff] at hf ⊢
  obtain ⟨b, hb, hf⟩ := hf
  cases b with
  | true =>
   have hr : r = some (n, x.val) := by
    have : some (some (n, x.val)) = some r := hf
    cases this; rfl
   subst hr
   exact ⟨some (n, x'.val), ⟨true, hb, rfl⟩, rfl, hx.val⟩
  | false =>
   obtain ⟨r', q1, q2⟩ := findAsking_es (kt := kt) (k := k) (n := n + 1) (r := r) ht hf
   exact ⟨r', ⟨false, hb, q1⟩, q2⟩
theorem findV_es {kt : TypeId} {k : Value} {es es' : List MapEntry} {r : Option (Nat × Value)} (hes : EsR β es es') (hf : findV P kt k es = some r) :
  ∃ r', quick P (Instr.findKey kt k es') = some r' ∧ FindR β r r' := by
 unfold findV Instr.findKey at hf
 unfold Instr.findKey
 simp only [quick_bind, Option.bind_eq_some_iff] at hf ⊢
 obtain ⟨d, hd, hf⟩ := hf
 cases hn : Instr.findNow d k es 0 with
 | none =>
  rw [hn] at hf
  obtain ⟨r', q1, q2⟩ := findAsking_es (P := P) hes hf
  refine ⟨r', ⟨d, hd, ?_⟩, q2⟩
  rw [findNow_none hes hn]
  exact q1
 | some r0 =>
  rw [hn] at hf
  have : r0 = r := by
   have : some r0 = some r := hf
   cases this; rfl
  subst this
  obtain ⟨r', q1, q2⟩ := findNow_es hes hn
  refine ⟨r', ⟨d, hd, ?_⟩, q2⟩
  rw [q1]
  rfl
theorem map_inv {v' : Value} {id : Nat} (hv : VR β (.map (some id)) v') : ∃ x, β id = some x ∧ v' = .map (some x.g) := by
 cases hv with
 | free v hf => simp [free0] at hf
 | map h1 => exact ⟨_, h1, rfl⟩
theorem mapOf_sound (hr : HR β h w) {m m' : Value} {es : List MapEntry} (hm : mapOf h m = some es) (hv : VR β m m') :
  (m' = .map none ∧ es = []) ∨ ∃ g es' ck, m' = .map (some g) ∧ w.heap[g]? = some (.map es' ck) ∧ EsR β es es'.toList := by
 unfold mapOf at hm
 split at hm
 ·cases hm
  left
  exact ⟨hv.free0_eq rfl, rfl⟩
 ·rename_i r
  obtain ⟨x, hx, rfl⟩ := map_inv hv
  right
  cases hg : h.t.get r with
  | none => rw [hg] at hm; cases hm
  | some o =>
   rw [hg] at hm
   cases o with
   | map es0 ck =>
    cases hm
    obtain ⟨es', e1, e2⟩ := hr.map _ _ _ _ hx hg
    exact ⟨_, es', ck, rfl, e1, e2⟩
   | _ => cases hm
 ·cases hm
theorem run_getMap {g : Nat} {es : Array MapEntry} {ck : Nat} (hg : w.heap[g]? = some (.map es ck)) : (getObj g).run P w = .ok (.map es ck) w := by
 simp [getObj, Sem.run, hg]
theorem lookup_sound (hr : HR β h w) {t : TypeId} {m m' k k' v : Value} {ok : Bool} (hl : lookupV P h t m k ok = some v) (hm : VR β m m') (hk : VR β k k') :
  ∃ v', (Instr.lookup t m' k' ok).run P w = .ok v' w ∧ VR β v v' := by
 unfold lookupV at hl
 split at hl
 case h_2 => cases hl
 rename_i kt el hu
 split at hl
 case isFalse => cases hl
 rename_i hfk
 have : k' = k := hk.free1_eq hfk
 subst this
 split at hl
 case h_2 => cases hl
 rename_i es z hmo hz
 have hemp : ∀ {es' : Array MapEntry}, EsR β es es'.toList → es'.isEmpty = es.isEmpty := by
  intro es' he
  have h1 : es.length = es'.size := by rw [he.1, Array.length_toList]
  unfold Array.isEmpty
  cases es with
  | nil => simp at h1; simp [← h1]
  | cons x l =>
   have h0 : es'.size ≠ 0 := by simp at h1; omega
   simp [h0]
 have key : ∀ {es' : Array MapEntry} {v : Value}, EsR β es es'.toList →
   (match quick P (Instr.checkKey es.isEmpty 10000 kt k'), findV P kt k' es with
    | some _, some (some (_, v)) => some (if ok = true then .tuple #[v, .bool true] else v)
    | some _, some none => if free1 z = true then some (if ok = true then .tuple #[z, .bool false] else z) else none
    | _, _ => none) = some v →
   ∃ v', (do
    Instr.checkKey es'.isEmpty 10000 kt k'
    let (v, ok') ← match ← Instr.findKey kt k' es'.toList with
     | some (_, v) => pure (v, true)
     | none => pure (← zeroValue el, false)
    pure (if ok then .tuple #[v, .bool ok'] else v) : Sem Value).run P w = .ok v' w ∧ VR β v v' := by
  intro es' v he hq
  split at hq
  ·rename_i u1 i v0 hck hfv
   cases hq
   obtain ⟨r', q1, q2⟩ := findV_es he hfv
   cases r' with
   | none => exact q2.elim
   | some iv =>
    obtain ⟨i', v'⟩ := iv
    obtain ⟨_, q3⟩ := q2
    refine ⟨if ok then .tuple #[v', .bool true] else v', ?_, ?_⟩
    ·rw [hemp he]
     simp only [Sem.run_bind, quick_run hck, Result.andThen_ok, quick_run q1, Sem.run_pure]
    ·cases ok with
     | true =>
      exact VRl.toTup (l := [v0, .bool true]) (l' := [v', .bool true]) (.cons q3 (.cons (.free _ rfl) .nil))
     | false => exact q3
  ·rename_i u1 hck hfv
   split at hq
   case isFalse => cases hq
   rename_i hfz
   cases hq
   obtain ⟨r', q1, q2⟩ := findV_es he hfv
   cases r' with
   | some iv => exact q2.elim
   | none =>
    refine ⟨if ok then .tuple #[z, .bool false] else z, ?_, ?_⟩
    ·rw [hemp he]
     simp only [Sem.run_bind, quick_run hck, Result.andThen_ok, quick_run q1, Sem.run_pure, run_zeroV hz]
    ·cases ok with
     | true => exact VRl.toTup (l := [z, .bool false]) (l' := [z, .bool false]) (.cons (.of_free1 hfz) (.cons (.free _ rfl) .nil))
     | false => exact .of_free1 hfz
  ·cases hq
 rcases mapOf_sound hr hmo hm with ⟨rfl, he⟩ | ⟨g, es', ck, rfl, hg, he⟩
 ·subst he
  obtain ⟨v', q1, q2⟩ := key (es' := #[]) ⟨rfl, fun i a b p => by simp at p⟩ hl
  refine ⟨v', ?_, q2⟩
  unfold Instr.lookup
  simp only [Sem.run_bind, run_underlying hu, Result.andThen_ok, Sem.run_pure] at q1 ⊢
  exact q1
 ·obtain ⟨v', q1, q2⟩ := key he hl
  refine ⟨v', ?_, q2⟩
  unfold Instr.lookup
  simp only [Sem.run_bind, run_underlying hu, Result.andThen_ok, Sem.run_pure, run_getMap hg] at q1 ⊢
  exact q1
end
end Go.AM
namespace Go.AM
section
variable {P : Program} {β : Ren} {h : AH} {w : World} {e : Tr Value} {a : Act}
theorem run_setMap {g : Nat} {es : Array MapEntry} {ck : Nat} (o : Obj) (hg : w.heap[g]? = some (.map es ck)) : (setObj g o).run P w = .ok () { w with heap := w.heap.setIfInBounds g o } := by
 simp [setObj, Sem.run, hg]
theorem mapUpdate_sound (hr : HR β h w) (hw : Wf h) {t : TypeId} {m m' k k' x x' : Value} {h' : AH} (hl : mapUpdateV P h t m k x = some h') (hm : VR β m m') (hk : VR β k k') (hx : VR β x x') :
  ∃ w', (Instr.mapUpdate t m' k' x').run P w = .ok () w' ∧ HR β h' w' ∧ Wf h' ∧ Evo β h w β h' w' := by
 unfold mapUpdateV at hl
 split at hl
 case h_2 => cases hl
 rename_i kt el r hu
 split at hl
 case isFalse => cases hl
 rename_i hfk
 have : k' = k := hk.free1_eq hfk
 subst this
 obtain ⟨b, hb, rfl⟩ := map_inv hm
 cases hg : h.t.get r with
 | none => rw [hg] at hl; cases hl
 | some o =>
 rw [hg] at hl
 cases o with
 | row => cases hl
 | alias => cases hl
 | loop => cases hl
 | map es ck =>
 simp only at hl
 obtain ⟨es', e1, e2⟩ := hr.map _ _ _ _ hb hg
 have hgs : b.g < w.heap.size := (hr.dom _ _ hb).2
 have hset : ∀ (o : Obj), ({ w with heap := w.heap.setIfInBounds b.g o } : World).heap[b.g]? = some o ∧ (∀ c, c ≠ b.g → ({ w with heap := w.heap.setIfInBounds b.g o } : World).heap[c]? = w.heap[c]?) := by
  intro o
  refine ⟨by simp [hgs], fun c hc => ?_⟩
  simp only
  rw [Array.getElem?_setIfInBounds_ne (Ne.symm hc)]
 split at hl
 ·rename_i u1 i v0 hck hfv
  obtain ⟨r', q1, q2⟩ := findV_es e2 hfv
  cases r' with
  | none => exact q2.elim
  | some iv =>
  obtain ⟨i', v'⟩ := iv
  obtain ⟨q2, q3⟩ := q2
  subst q2
  cases hei : es[i']? with
  | none => rw [hei] at hl; cases hl
  | some en =>
  rw [hei] at hl
  simp only at hl
  cases hkt : quick P (Instr.keyThatStays en.key k') with
  | none => rw [hkt] at hl; cases hl
  | some k2 =>
  rw [hkt] at hl
  simp only at hl
  split at hl
  case isFalse => cases hl
  rename_i hf2
  cases hl
  have hlt : i' < es'.size := by
   have := e2.1
   have h1 : i' < es.length := by
    rcases Nat.lt_or_ge i' es.length with q | q
    ·exact q
    ·rw [List.getElem?_eq_none q] at hei; cases hei
   simp at this; omega
  have hei' : es'[i']? = some es'[i'] := Array.getElem?_eq_getElem hlt
  have hent := e2.2 i' en es'[i'] hei (by simp)
  have hes2 : EsR β (es.modify i' fun e => { e with key := k2, val := x }) (es'.modify i' fun e => { e with key := k2, val := x' }).toList := by
   refine ⟨by simpa using e2.1, fun j p q a b => ?_⟩
   rw [List.getElem?_modify] at a
   rw [Array.getElem?_toList, Array.getElem?_modify] at b
   by_cases hj : i' = j
   ·subst hj
    simp only [if_true, hei', hei, Option.map_some, Option.some.injEq, Functor.map] at a b
    subst a; subst b
    exact ⟨rfl, hf2, hx, hent.born⟩
   ·simp only [if_neg hj] at a b
    refine e2.2 j p q ?_ (by simpa using b)
    cases hq : es[j]? with
    | none => rw [hq] at a; cases a
    | some u => rw [hq] at a; exact a
  obtain ⟨s1, s2⟩ := hset (.map (es'.modify i' fun e => { e with key := k2, val := x' }) ck)
  obtain ⟨p1, p2, p3⟩ := hr_setMap (w' := { w with heap := w.heap.setIfInBounds b.g (.map (es'.modify i' fun e => { e with key := k2, val := x' }) ck) }) hr hw hb hg hes2 s1 s2 (by simp) rfl rfl rfl
  refine ⟨_, ?_, p1, p2, p3⟩
  unfold Instr.mapUpdate
  simp only [Sem.run_bind, run_underlying hu, Result.andThen_ok, run_getMap e1, quick_run hck, quick_run q1, hei', Option.map_some, Option.getD_some, hent.key, quick_run hkt, run_setMap _ e1]
 ·rename_i u1 hck hfv
  cases hl
  obtain ⟨r', q1, q2⟩ := findV_es e2 hfv
  cases r' with
  | some iv => exact q2.elim
  | none =>
  have hes2 : EsR β (es ++ [{ key := k', val := x, born := ck }]) (es'.push { key := k', val := x', born := ck }).toList := by
   refine ⟨by simpa using e2.1, fun j p q a b => ?_⟩
   simp only [Array.toList_push] at b
   by_cases hj : j < es.length
   ·rw [List.getElem?_append_left hj] at a
    rw [List.getElem?_append_left (by rw [← e2.1]; exact hj)] at b
    exact e2.2 j p q a b
   ·rw [List.getElem?_append_right (by omega)] at a
    rw [List.getElem?_append_right (by rw [← e2.1]; omega), ← e2.1] at b
    cases hq : j - es.length with
    | zero =>
     rw [hq] at a b
     simp at a b
     subst a; subst b
     exact ⟨rfl, hfk, hx, rfl⟩
    | succ n => rw [hq] at a; simp at a
  obtain ⟨s1, s2⟩ := hset (.map (es'.push { key := k', val := x', born := ck }) (ck + 1))
  obtain ⟨p1, p2, p3⟩ := hr_setMap (w' := { w with heap := w.heap.setIfInBounds b.g (.map (es'.push { key := k', val := x', born := ck }) (ck + 1)) }) hr hw hb hg hes2 s1 s2 (by simp) rfl rfl rfl
  refine ⟨_, ?_, p1, p2, p3⟩
  unfold Instr.mapUpdate
  simp only [Sem.run_bind, run_underlying hu, Result.andThen_ok, run_getMap e1, quick_run hck, quick_run q1, run_setMap _ e1]
 ·cases hl
theorem eqIn_slice (d : Nat) {t el : TypeId} {a : Option Addr} {l c : Nat} (hu : P.underlying t = some (.slice el)) : (Op.equalIn (d + 1) t (.slice a l c) (.slice none 0 0)).run P w = .ok a.isNone w := by
 cases a <;> simp [Op.equalIn, run_underlying hu]
theorem eqIn_slice' (d : Nat) {t el : TypeId} {a : Option Addr} {l c : Nat} (hu : P.underlying t = some (.slice el)) : (Op.equalIn (d + 1) t (.slice none 0 0) (.slice a l c)).run P w = .ok a.isNone w := by
 cases a <;> simp [Op.equalIn, run_underlying hu]
theorem eqIn_map (d : Nat) {t k el : TypeId} {a : Option Nat} (hu : P.underlying t = some (.map k el)) : (Op.equalIn (d + 1) t (.map a) (.map none)).run P w = .ok a.isNone w := by
 cases a <;> simp [Op.equalIn, run_underlying hu]
theorem eqIn_map' (d : Nat) {t k el : TypeId} {a : Option Nat} (hu : P.underlying t = some (.map k el)) : (Op.equalIn (d + 1) t (.map none) (.map a)).run P w = .ok a.isNone w := by
 cases a <;> simp [Op.equalIn, run_underlying hu]
theorem eqIn_ptr (d : Nat) {t el : TypeId} {a : Option Addr} (hu : P.underlying t = some (.pointer el)) : (Op.equalIn (d + 1) t (.pointer a) (.pointer none)).run P w = .ok a.isNone w := by
 cases a <;> simp [Op.equalIn, run_underlying hu]
theorem eqIn_ptr' (d : Nat) {t el : TypeId} {a : Option Addr} (hu : P.underlying t = some (.pointer el)) : (Op.equalIn (d + 1) t (.pointer none) (.pointer a)).run P w = .ok a.isNone w := by
 cases a <;> simp [Op.equalIn, run_underlying hu]
theorem eqIn_func (d : Nat) {t : TypeId} {p r : Array TypeId} {v : Bool} {f : Fn} {a c : Array Value} (hu : P.underlying t = some (.func p r v)) : (Op.equalIn (d + 1) t (.func f a c) .nilFunc).run P w = .ok false w := by
 simp [Op.equalIn, run_underlying hu]
theorem eqIn_func' (d : Nat) {t : TypeId} {p r : Array TypeId} {v : Bool} {f : Fn} {a c : Array Value} (hu : P.underlying t = some (.func p r v)) : (Op.equalIn (d + 1) t .nilFunc (.func f a c)).run P w = .ok false w := by
 simp [Op.equalIn, run_underlying hu]
theorem slice_shape {a : Option Addr} {l c : Nat} {v' : Value} (hn : ¬ (a.isNone && c != 0) = true) (hv : VR β (.slice a l c) v') : ∃ a' l' c', v' = .slice a' l' c' ∧ a'.isNone = a.isNone := by
 cases hv <;> first | exact ⟨_, _, _, rfl, rfl⟩ | exact absurd rfl hn
theorem map_shape {a : Option Nat} {v' : Value} (hv : VR β (.map a) v') : ∃ a', v' = .map a' ∧ a'.isNone = a.isNone := by cases hv <;> exact ⟨_, rfl, rfl⟩
theorem ptr_shape {a : Option Addr} {v' : Value} (hv : VR β (.pointer a) v') : ∃ a', v' = .pointer a' ∧ a'.isNone = a.isNone := by cases hv <;> exact ⟨_, rfl, rfl⟩
theorem func_shape {f : Fn} {a c : Array Value} {v' : Value} (hv : VR β (.func f a c) v') : ∃ f' a' c', v' = .func f' a' c' := by
 cases hv with
 | func => exact ⟨_, _, _, rfl⟩
 | yield => exact ⟨_, _, _, rfl⟩
 | free _ hf => simp [free0] at hf
theorem nilEq_eq {t : TypeId} {x x' y y' : Value} {b : Bool} (hn : nilEq P t x y = some b) (hx : VR β x x') (hy : VR β y y') : (Op.equal t x' y').run P w = .ok b w ∧
  (∀ k n, x' ≠ .int k n) ∧ (∀ k n, x' ≠ .float k n) ∧ (∀ k n m, x' ≠ .complex k n m) ∧ (∀ s, x' ≠ .string s) := by
 have e : ∀ u v, Op.equal t u v = Op.equalIn (9999 + 1) t u v := fun _ _ => rfl
 rw [e]
 unfold nilEq at hn
 split at hn
 case h_9 => cases hn
 case h_1 =>
  rename_i hu
  split at hn
  case isTrue => cases hn
  rename_i hnn
  cases hn
  obtain ⟨a', l', c', rfl, hq⟩ := slice_shape hnn hx
  rw [hy.free0_eq rfl, ← hq]
  exact ⟨eqIn_slice _ ‹_›, by simp, by simp, by simp, by simp⟩
 case h_2 =>
  rename_i hu
  split at hn
  case isTrue => cases hn
  rename_i hnn
  cases hn
  obtain ⟨a', l', c', rfl, hq⟩ := slice_shape hnn hy
  rw [hx.free0_eq rfl, ← hq]
  exact ⟨eqIn_slice' _ ‹_›, by simp, by simp, by simp, by simp⟩
 all_goals
  rename_i hu
  cases hn
 ·obtain ⟨a', rfl, hq⟩ := map_shape hx
  rw [hy.free0_eq rfl, ← hq]
  exact ⟨eqIn_map _ ‹_›, by simp, by simp, by simp, by simp⟩
 ·obtain ⟨a', rfl, hq⟩ := map_shape hy
  rw [hx.free0_eq rfl, ← hq]
  exact ⟨eqIn_map' _ ‹_›, by simp, by simp, by simp, by simp⟩
 ·obtain ⟨a', rfl, hq⟩ := ptr_shape hx
  rw [hy.free0_eq rfl, ← hq]
  exact ⟨eqIn_ptr _ ‹_›, by simp, by simp, by simp, by simp⟩
 ·obtain ⟨a', rfl, hq⟩ := ptr_shape hy
  rw [hx.free0_eq rfl, ← hq]
  exact ⟨eqIn_ptr' _ ‹_›, by simp, by simp, by simp, by simp⟩
 ·obtain ⟨f', a', c', rfl⟩ := func_shape hx
  rw [hy.free0_eq rfl]
  exact ⟨eqIn_func _ ‹_›, by simp, by simp, by simp, by simp⟩
 ·obtain ⟨f', a', c', rfl⟩ := func_shape hy
  rw [hx.free0_eq rfl]
  exact ⟨eqIn_func' _ ‹_›, by simp, by simp, by simp, by simp⟩
theorem eqOp_run {t : TypeId} {u v : Value} {c : Bool} (hq : (Op.equal t u v).run P w = .ok c w) (h1 : ∀ k n, u ≠ .int k n) (h2 : ∀ k n, u ≠ .float k n) (h3 : ∀ k n m, u ≠ .complex k n m) (h4 : ∀ s, u ≠ .string s) :
  (binOp .eql t u v).run P w = .ok (.bool c) w ∧ (binOp .neq t u v).run P w = .ok (.bool !c) w := by
 have e1 : binOp .eql t u v = (do pure (.bool (← Op.equal t u v)) : Sem Value) := by
  unfold binOp
  cases u <;> first | exact absurd rfl (h1 _ _) | exact absurd rfl (h2 _ _) | exact absurd rfl (h3 _ _ _) | exact absurd rfl (h4 _) | rfl
 have e2 : binOp .neq t u v = (do pure (.bool (!(← Op.equal t u v))) : Sem Value) := by
  unfold binOp
  cases u <;> first | exact absurd rfl (h1 _ _) | exact absurd rfl (h2 _ _) | exact absurd rfl (h3 _ _ _) | exact absurd rfl (h4 _) | rfl
 rw [e1, e2]
 simp only [Sem.run_bind, hq, Result.andThen_ok, Sem.run_pure, and_self]
theorem nilEq_sound {t : TypeId} {x x' y y' : Value} {b : Bool} (hn : nilEq P t x y = some b) (hx : VR β x x') (hy : VR β y y') : (binOp .eql t x' y').run P w = .ok (.bool b) w ∧ (binOp .neq t x' y').run P w = .ok (.bool !b) w := by
 obtain ⟨a, b, c, d, e⟩ := nilEq_eq (w := w) hn hx hy
 exact eqOp_run a b c d e
theorem keep_some {o : Option Value} {v : Value} (h : keep o = some v) : o = some v ∧ AM.free v = true := by
 unfold keep at h
 split at h
 ·split at h
  ·cases h; exact ⟨rfl, ‹_›⟩
  ·cases h
 ·cases h
theorem guard_run {op : BinOp} {t : TypeId} {xo yo : Operand} {x y : Value} (h1 : ¬ (x = .nilIface ∧ y = .nilIface)) (h2 : ∀ a b, ¬ (x = .agg a ∧ y = .agg b)) : (eqGuard op t xo yo x y).run P w = .ok () w := by
 unfold eqGuard
 by_cases hop : (match op with | .eql => true | .neq => true | _ => false) = true
 ·cases op <;> simp at hop <;>
  ·cases x <;> first
    | rfl
    | (cases y <;> first | rfl | exact absurd ⟨rfl, rfl⟩ h1 | exact absurd ⟨rfl, rfl⟩ (h2 _ _))
 ·cases op <;> first | rfl | (simp at hop)
theorem binV_sound {op : BinOp} {t : TypeId} {xo yo : Operand} {x x' y y' v : Value} (hb : binV P op t xo yo x y = some v) (hx : VR β x x') (hy : VR β y y') :
  (do eqGuard op t xo yo x' y'; binOp op t x' y').run P w = .ok v w ∧ AM.free v = true := by
 unfold binV at hb
 split at hb
 ·rename_i hf
  simp only [Bool.and_eq_true] at hf
  rw [hx.free1_eq hf.1, hy.free1_eq hf.2]
  obtain ⟨h1, h2⟩ := keep_some hb
  exact ⟨quick_run h1 w, h2⟩
 ·split at hb
  ·rename_i b hn
   cases hb
   refine ⟨?_, rfl⟩
   rw [Sem.run_bind, guard_run, Result.andThen_ok]
   ·exact (nilEq_sound hn hx hy).1
   ·rintro ⟨rfl, rfl⟩
    cases hx with
    | free _ hf => simp [nilEq] at hn
   ·rintro a b ⟨rfl, rfl⟩
    cases hx with
    | free _ hf => simp [free0] at hf
    | agg => simp [nilEq] at hn
  ·rename_i b hn
   cases hb
   refine ⟨?_, rfl⟩
   rw [Sem.run_bind, guard_run, Result.andThen_ok]
   ·exact (nilEq_sound hn hx hy).2
   ·rintro ⟨rfl, rfl⟩
    cases hx with
    | free _ hf => simp [nilEq] at hn
   ·rintro a b ⟨rfl, rfl⟩
    cases hx with
    | free _ hf => simp [free0] at hf
    | agg => simp [nilEq] at hn
  ·cases hb
end
end Go.AM
namespace Go.AM
section
variable {P : Program} {β : Ren} {h : AH} {w : World} {e : Tr Value} {a : Act}
theorem agg_inv {cs : Array Value} {v' : Value} (hv : VR β (.agg cs) v') : ∃ cs', v' = .agg cs' ∧ cs.size = cs'.size ∧ ∀ (i : Nat) (u u' : Value), cs[i]? = some u → cs'[i]? = some u' → VR β u u' := by
 cases hv with
 | free _ hf => simp [free0] at hf
 | agg h1 h2 => exact ⟨_, rfl, h1, h2⟩
theorem part_sound {t : TypeId} {cs cs' : Array Value} {off : Nat} {v : Value} (hq : quick P (part t cs off) = some v) (h1 : cs.size = cs'.size) (h2 : ∀ (i : Nat) (u u' : Value), cs[i]? = some u → cs'[i]? = some u' → VR β u u') :
  ∃ v', (part t cs' off).run P w = .ok v' w ∧ VR β v v' := by
 unfold part at hq ⊢
 simp only [quick_bind, Option.bind_eq_some_iff] at hq
 obtain ⟨b, hb, hq⟩ := hq
 cases b with
 | true =>
  simp only [if_true, quick_bind, Option.bind_eq_some_iff] at hq
  obtain ⟨n, hn, hq⟩ := hq
  have hv : v = .agg (cs.extract off (off + n)) := by
   have : some (Value.agg (cs.extract off (off + n))) = some v := hq
   cases this; rfl
  subst hv
  refine ⟨.agg (cs'.extract off (off + n)), by simp only [Sem.run_bind, quick_run hb, Result.andThen_ok, if_true, quick_run hn, Sem.run_pure], .agg (by simp [h1]) fun i u u' p q => ?_⟩
  rw [Array.getElem?_extract] at p q
  split at p
  ·rename_i hlt
   rw [if_pos (by omega)] at q
   exact h2 _ _ _ p q
  ·cases p
 | false =>
  simp only [Bool.false_eq_true, if_false] at hq
  cases ho : cs[off]? with
  | none => rw [ho] at hq; cases hq
  | some u =>
   rw [ho] at hq
   have hv : v = u := by
    have : some u = some v := hq
    cases this; rfl
   subst hv
   have hlt : off < cs'.size := by
    rw [← h1]
    rcases Nat.lt_or_ge off cs.size with q | q
    ·exact q
    ·rw [Array.getElem?_eq_none q] at ho; cases ho
   refine ⟨cs'[off], ?_, h2 _ _ _ ho (Array.getElem?_eq_getElem hlt)⟩
   simp only [Sem.run_bind, quick_run hb, Result.andThen_ok, Bool.false_eq_true, if_false, Array.getElem?_eq_getElem hlt, Sem.run_pure]
theorem field_sound {t : TypeId} {x x' v : Value} {i : Nat} (hq : quick P (Instr.field t x i) = some v) (hx : VR β x x') : ∃ v', (Instr.field t x' i).run P w = .ok v' w ∧ VR β v v' := by
 unfold Instr.field at hq ⊢
 simp only [quick_bind, Option.bind_eq_some_iff] at hq
 obtain ⟨d, hd, hq⟩ := hq
 cases d with
 | struct fields =>
  simp only at hq
  cases hf : fields[i]? with
  | none => rw [hf] at hq; cases hq
  | some f =>
   rw [hf] at hq
   simp only [quick_bind, Option.bind_eq_some_iff] at hq
   obtain ⟨cs, hcs, hq⟩ := hq
   cases x with
   | agg cs0 =>
    have : cs0 = cs := by
     have : some cs0 = some cs := hcs
     cases this; rfl
    subst this
    obtain ⟨cs', rfl, h1, h2⟩ := agg_inv hx
    obtain ⟨v', k1, k2⟩ := part_sound (w := w) hq h1 h2
    refine ⟨v', ?_, k2⟩
    simp only [Sem.run_bind, quick_run hd, Result.andThen_ok, hf, asAgg, Sem.run_pure, k1]
   | _ => cases hcs
 | _ => cases hq
theorem extract_sound {x x' v : Value} {i : Nat} (hq : quick P (Instr.extract x i) = some v) (hx : VR β x x') : ∃ v', (Instr.extract x' i).run P w = .ok v' w ∧ VR β v v' := by
 cases x with
 | tuple vs =>
  simp only [Instr.extract] at hq
  cases ho : vs[i]? with
  | none => rw [ho] at hq; cases hq
  | some u =>
   rw [ho] at hq
   have : u = v := by
    have : some u = some v := hq
    cases this; rfl
   subst this
   cases hx with
   | free _ hf => simp [free0] at hf
   | tuple h1 h2 =>
    rename_i vs'
    have hlt : i < vs'.size := by
     rw [← h1]
     rcases Nat.lt_or_ge i vs.size with q | q
     ·exact q
     ·rw [Array.getElem?_eq_none q] at ho; cases ho
    refine ⟨vs'[i], ?_, h2 _ _ _ ho (Array.getElem?_eq_getElem hlt)⟩
    simp only [Instr.extract, Array.getElem?_eq_getElem hlt, Sem.run_pure]
 | _ => cases hq
theorem buildSlice_sound (hr : HR β h w) (hw : Wf h) {t el : TypeId} {len sz : Nat} {z : Value} {ps ps' : List (Nat × Value)} {cs : Array Value} (hu : P.underlying t = some (.slice el)) (hsz : szOf P el = some sz)
  (hz : (P.info? el).bind (·.zero) = some z) (h1 : len * sz ≤ 16777216) (h2 : z.cells.size = sz) (h3 : 0 < sz) (h4 : free1 z = true)
  (hf : Instr.fill (fun i => some (i * sz, sz)) ⟨zerosC z.cells.toList len⟩ ps = some cs)
  (hl : ps.length = ps'.length) (hp : ∀ (i : Nat) (p p' : Nat × Value), ps[i]? = some p → ps'[i]? = some p' → p'.1 = p.1 ∧ VR β p.2 p'.2) :
  ∃ v' w' β', (Instr.buildSlice t len ⟨ps'⟩).run P w = .ok v' w' ∧ VR β' (.slice (some ⟨h.next, 0, none⟩) len len) v' ∧ HR β' (newRow h cs.toList).2 w' ∧ Wf (newRow h cs.toList).2 ∧ Evo β h w β' (newRow h cs.toList).2 w' := by
 have hzz : VRl β (⟨zerosC z.cells.toList len⟩ : Array Value).toList (⟨zerosC z.cells.toList len⟩ : Array Value).toList := VRl.free (zerosC_free (cells_free h4) len)
 obtain ⟨cs', k1, k2⟩ := fill_vr (β := β) (fun i => some (i * sz, sz)) ps ps' hl hp _ _ _ hzz hf
 obtain ⟨p1, p2, p3⟩ := newRow_sound hr hw el k2
 refine ⟨_, _, _, ?_, slice_new (.inl ⟨rfl, rfl⟩), p1, p2, p3⟩
 unfold Instr.buildSlice
 have h5 : ¬ len * sz > 2 ^ 24 := by omega
 simp only [Sem.run_bind, run_underlying hu, Result.andThen_ok, run_sz hsz, if_neg h5]
 by_cases h0 : len * sz = 0
 ·have hl0 : len = 0 := by
   rcases Nat.mul_eq_zero.1 h0 with q | q
   ·exact q
   ·omega
  subst hl0
  simp only [h0, if_true]
  simp only [Sem.run_bind, Sem.run_pure, Result.andThen_ok]
  rw [show (Array.map (fun x => (#[] : Array Value)[x % (#[] : Array Value).size]!) (Array.range 0)) = ⟨zerosC z.cells.toList 0⟩ by simp [zerosC]]
  simp only [k1]
  rfl
 ·simp only [if_neg h0, Sem.run_bind, run_zeroV hz, Sem.run_pure, Result.andThen_ok, zeros_range h2 h3, k1]
  rfl
theorem makeSlice_sound (hr : HR β h w) (hw : Wf h) {t el : TypeId} {n m : Int} {i : TypeInfo} {z : Value} (hu : P.underlying t = some (.slice el)) (hi : P.info? el = some i) (hiz : i.zero = some z)
  (c1 : 0 ≤ n) (c2 : n ≤ m) (c3 : m < BIG) (c4 : m * i.bytes ≤ 140737488355328) (c5 : z.cells.size = i.size) (c6 : 0 < i.size) (c7 : free1 z = true) :
  ∃ v' w' β', (Instr.makeSlice t (.int .i64 n) (.int .i64 m)).run P w = .ok v' w' ∧ VR β' (.slice (some ⟨h.next, 0, none⟩) n.toNat (if n = m then n.toNat else n.toNat + i.size)) v' ∧
   HR β' (newRow h (zerosC z.cells.toList m.toNat)).2 w' ∧ Wf (newRow h (zerosC z.cells.toList m.toNat)).2 ∧ Evo β h w β' (newRow h (zerosC z.cells.toList m.toNat)).2 w' := by
 obtain ⟨p1, p2, p3⟩ := newRow_sound hr hw el (VRl.free (β := β) (zerosC_free (cells_free c7) m.toNat))
 unfold BIG at c3
 have wn : IntKind.i64.wrap n = n := IntWalk.i64_in n (by omega)
 have wm : IntKind.i64.wrap m = m := IntWalk.i64_in m (by omega)
 have hlen : (zerosC z.cells.toList m.toNat).length = m.toNat * i.size := by rw [zerosC_length]; simp [c5]
 refine ⟨.slice (some ⟨w.heap.size, 0, none⟩) n.toNat m.toNat, _, _, ?_, slice_new ?_, p1, p2, p3⟩
 ·unfold Instr.makeSlice
  have hb : ¬ (2 : Int) ^ 48 < (i.bytes : Int) * m := by rw [Int.mul_comm]; omega
  simp only [Sem.run_bind, run_underlying hu, Result.andThen_ok, asInt, asIntOf, Sem.run_pure, run_info hi, wn, wm]
  have hcond : (decide (m < 0) || decide ((i.bytes : Int) * m > 2 ^ 48) || decide (n < 0) || decide (n > m)) = false := by
   simp only [Bool.or_eq_false_iff, decide_eq_false_iff_not]
   refine ⟨⟨⟨by omega, ?_⟩, by omega⟩, by omega⟩
   exact hb
  simp only [hcond, Bool.false_eq_true, if_false, Sem.run_bind, Result.andThen_ok, run_askRoom, run_sz (show szOf P el = some i.size by simp [szOf, hi])]
  by_cases h0 : m.toNat * i.size = 0
  ·have hm0 : m.toNat = 0 := by
    rcases Nat.mul_eq_zero.1 h0 with q | q
    ·exact q
    ·omega
   simp only [h0, if_true]
   simp only [Sem.run_bind, Sem.run_pure, Result.andThen_ok]
   rw [show (Array.map (fun x => (#[] : Array Value)[x % (#[] : Array Value).size]!) (Array.range 0)) = ⟨zerosC z.cells.toList m.toNat⟩ by rw [hm0]; simp [zerosC]]
   rfl
  ·simp only [if_neg h0, Sem.run_bind, run_zeroV (show (P.info? el).bind (·.zero) = some z by simp [hi, hiz]), Sem.run_pure, Result.andThen_ok, zeros_range c5 c6]
   rfl
 ·by_cases hq : n = m
  ·subst hq
   rw [if_pos rfl]
   exact .inl ⟨rfl, rfl⟩
  ·rw [if_neg hq]
   refine .inr ⟨i.size, c6, rfl, by omega, by simp only [hlen]; omega⟩
theorem makeMap_sound (hr : HR β h w) (hw : Wf h) : HR (upd β h.next ⟨w.heap.size, 0, 0, 0⟩) { h with t := h.t.set h.next (.map [] 0), next := h.next + 1 } (w.alloc (.map #[] 0)) ∧
  Wf { h with t := h.t.set h.next (.map [] 0), next := h.next + 1 } ∧ Evo β h w (upd β h.next ⟨w.heap.size, 0, 0, 0⟩) { h with t := h.t.set h.next (.map [] 0), next := h.next + 1 } (w.alloc (.map #[] 0)) := by
 have k := hr_new hr hw (.map [] 0) (.map #[] 0) 0 (fun d c l ro n0 q => by cases q) (fun es ck q => by cases q; exact ⟨#[], rfl, rfl, fun i a b p => by simp at p⟩) (fun r q => by cases q) (fun r lo n q => by cases q)
 refine ⟨k.1, ?_, k.2⟩
 have hf : ∀ {id f}, ({ h with t := h.t.set h.next (.map [] 0), next := h.next + 1 } : AH).fam id = some f → id < h.next ∧ h.fam id = some f := by
  intro id f hq
  by_cases h1 : id = h.next
  ·subst h1; simp [AH.fam, Tr.get_set_eq] at hq
  ·have hl : id < h.next := by
    unfold AH.fam at hq
    simp only [Tr.get_set_ne _ _ h1] at hq
    cases hg : h.t.get id with
    | none => rw [hg] at hq; cases hq
    | some o => exact hw.lt _ _ hg
   exact ⟨hl, by rw [← hq]; exact (fam_set_next hw hl).symm⟩
 constructor
 ·intro id o ho
  by_cases h1 : id = h.next
  ·subst h1; exact Nat.lt_succ_self _
  ·exact Nat.lt_succ_of_lt (hw.lt id o (by simpa [Tr.get_set_ne _ _ h1] using ho))
 ·intro id f q; exact hw.lon _ _ (hf q).2
 ·intro id f q; exact hw.curn _ _ (hf q).2
 ·intro id f q; exact hw.stale _ _ (hf q).2
 ·intro id f q; exact Nat.lt_succ_of_lt (hw.cur _ _ (hf q).2)
 ·intro id r lo n ho
  by_cases h1 : id = h.next
  ·subst h1; simp [Tr.get_set_eq] at ho
  ·obtain ⟨d, c, l, ro, n0, hr, hc⟩ := hw.ali id r lo n (by simpa [Tr.get_set_ne _ _ h1] using ho)
   have : r < h.next := hw.lt _ _ hr
   exact ⟨d, c, l, ro, n0, by simpa [Tr.get_set_ne _ _ (show r ≠ h.next by omega)] using hr, hc⟩
end
end Go.AM
namespace Go.AM
section
variable {P : Program} {β : Ren} {h : AH} {w : World} {e : Tr Value} {a : Act}
theorem OkOp.val {s : Sem Value} {v v' : Value} {h' : AH} {w' : World} {β' : Ren} (hs : s.run P w = .ok v' w') (h1 : VR β' v v') (h2 : HR β' h' w') (h3 : Wf h') (h4 : Evo β h w β' h' w') :
  OkOp P β h w (do let u ← s; Pure.pure (Next.value u) : Sem Next) v h' :=
 ⟨v', w', β', .inl (by simp only [Sem.run_bind, hs, Result.andThen_ok, Sem.run_pure]), h1, h2, h3, h4⟩
theorem OkOp.same (hr : HR β h w) (hw : Wf h) {s : Sem Value} {v v' : Value} (hs : s.run P w = .ok v' w) (h1 : VR β v v') : OkOp P β h w (do let u ← s; Pure.pure (Next.value u) : Sem Next) v h :=
 .val hs h1 hr hw (.refl _ _ _)
theorem OkOp.unit {s : Sem Unit} {h' : AH} {w' : World} {β' : Ren} (hs : s.run P w = .ok () w') (h2 : HR β' h' w') (h3 : Wf h') (h4 : Evo β h w β' h' w') :
  OkOp P β h w (do s; Pure.pure Next.skip : Sem Next) undef h' :=
 ⟨undef, w', β', .inr ⟨by simp only [Sem.run_bind, hs, Result.andThen_ok, Sem.run_pure], rfl⟩, .of_free rfl, h2, h3, h4⟩
theorem map_inv' {α γ : Type} {o : Option α} {f : α → γ} {y : γ} (hq : o.map f = some y) : ∃ x, o = some x ∧ f x = y := by
 cases o with
 | none => cases hq
 | some x => exact ⟨x, rfl, by simpa using hq⟩
theorem arr_pairs (parts : Array (Nat × Operand)) (f : Operand → Value) : (parts.map fun (i, x) => (i, f x)) = ⟨parts.toList.map fun q => (q.1, f q.2)⟩ := by
 apply Array.ext'
 simp
theorem ovr_free {o o' : Option Value} (ho : OVR β o o') (hf : o.all free1 = true) : o' = o := by
 cases o <;> cases o'
 ·rfl
 ·exact ho.elim
 ·exact ho.elim
 ·rw [VR.free1_eq (β := β) ho (by simpa using hf)]
set_option maxHeartbeats 1000000 in
theorem aop_sound (hr : HR β h w) (hw : Wf h) (he : EnvW β e a.tmps) (o : Oper) {v : Value} {h' : AH} (ha : aop P e h o.op = some (v, h')) : OkOp P β h w (execOp a.eval o) v h' := by
 obtain ⟨dst, op, ty, pos, after, guard⟩ := o
 simp only at ha
 cases op <;> simp only [aop] at ha <;> simp only [execOp]
 case move x =>
  obtain ⟨u, h1, h2⟩ := map_inv' ha
  cases h2
  exact .pure hr hw (by simp) (ev_sound he h1)
 case assign x =>
  obtain ⟨u, h1, h2⟩ := map_inv' ha
  cases h2
  exact .pure hr hw (by simp) (ev_sound he h1)
 case pick c x y =>
  split at ha
  case h_2 => cases ha
  rename_i q hq
  obtain ⟨u, h1, h2⟩ := map_inv' ha
  cases h2
  have hc : a.eval c = .bool q := (ev_sound he hq).free0_eq rfl
  refine .pure hr hw ?_ (ev_sound he h1)
  rw [hc]
  cases q <;> simp [asBool]
 case alloc t =>
  cases hz : (P.info? t).bind (·.zero) with
  | none => rw [hz] at ha; cases ha
  | some z =>
   rw [hz] at ha
   simp only at ha
   split at ha
   case isFalse => cases ha
   rename_i hf
   cases ha
   refine box_sound (t := t) (v' := z) hr hw (.of_free1 hf) ?_
   simp only [Instr.alloc, Sem.run_bind, run_zeroV hz, Result.andThen_ok, newVar]
   rfl
 case box t x =>
  obtain ⟨u, h1, h2⟩ := map_inv' ha
  have h3 : v = (newRow h u.cells.toList).1 ∧ h' = (newRow h u.cells.toList).2 := by rw [h2]; exact ⟨rfl, rfl⟩
  obtain ⟨rfl, rfl⟩ := h3
  refine box_sound (t := t) hr hw (ev_sound he h1) ?_
  simp only [Instr.box, Sem.run_bind, newVar]
  rfl
 case build t parts =>
  split at ha
  case h_2 => cases ha
  rename_i ps z hps hz
  split at ha
  case isFalse => cases ha
  rename_i hf
  obtain ⟨u, h1, h2⟩ := map_inv' ha
  cases h2
  obtain ⟨ps', q1, q2, q3⟩ := evP_sound he hps
  obtain ⟨v', k1, k2⟩ := build_sound (w := w) hz hf h1 q2 q3
  rw [arr_pairs, q1]
  exact .same hr hw k1 k2
 case buildSlice t len parts =>
  split at ha
  case h_2 => cases ha
  rename_i ps el hps hu
  split at ha
  case h_2 => cases ha
  rename_i sz z hsz hz
  split at ha
  case isFalse => cases ha
  rename_i hc
  split at ha
  case h_2 => cases ha
  rename_i cs hfl
  cases ha
  obtain ⟨ps', q1, q2, q3⟩ := evP_sound he hps
  obtain ⟨v', w', β', k1, k2, k3, k4, k5⟩ := buildSlice_sound hr hw hu hsz hz hc.1 hc.2.1 hc.2.2.1 hc.2.2.2 hfl q2 q3
  rw [arr_pairs, q1]
  exact .val k1 k2 k3 k4 k5
 case load t x =>
  split at ha
  case h_2 => cases ha
  rename_i p hp
  obtain ⟨u, h1, h2⟩ := map_inv' ha
  cases h2
  obtain ⟨v', a', k1, k2, k3⟩ := loadV_sound hr hw h1 (ev_sound he hp)
  refine .same hr hw ?_ k3
  simp only [Instr.loadAt, k1, Instr.sureAddr, Sem.run_bind, Sem.run_pure, Result.andThen_ok, k2]
 case store t x y =>
  split at ha
  case h_2 => cases ha
  rename_i p u hp hu
  obtain ⟨h1, h2, h3⟩ := map_inv' ha
  cases h3
  obtain ⟨a', w', k1, k2, k3, k4, k5⟩ := storeV_sound hr hw h2 (ev_sound he hp) (ev_sound he hu)
  refine .unit (w' := w') ?_ k3 k4 k5
  simp only [Instr.storeAt, k1, Instr.sureAddr, Sem.run_bind, Sem.run_pure, Result.andThen_ok, k2]
 case nilCheck x =>
  split at ha
  case h_2 => cases ha
  rename_i ad hp
  cases ha
  have hv := ev_sound he hp
  obtain ⟨ad', q1, q2⟩ := ptr_shape hv
  rw [q1]
  cases ad' with
  | none => cases q2
  | some x' => rw [q1] at hv; exact .pure hr hw rfl hv
 case binOp op t x y yt =>
  split at ha
  case h_2 => cases ha
  rename_i u1 u2 h1 h2
  obtain ⟨r, h3, h4⟩ := map_inv' ha
  cases h4
  obtain ⟨k1, k2⟩ := binV_sound (w := w) h3 (ev_sound he h1) (ev_sound he h2)
  exact .same hr hw k1 (.of_free k2)
 case unOp op t x =>
  split at ha
  case h_2 => cases ha
  rename_i u hu
  split at ha
  case isFalse => cases ha
  rename_i hf
  obtain ⟨r, h3, h4⟩ := map_inv' ha
  cases h4
  obtain ⟨k1, k2⟩ := keep_some h3
  rw [(ev_sound he hu).free1_eq hf]
  exact .same hr hw (quick_run k1 w) (.of_free k2)
 case convert s d x =>
  split at ha
  case h_2 => cases ha
  rename_i u hu
  split at ha
  case isFalse => cases ha
  rename_i hf
  obtain ⟨r, h3, h4⟩ := map_inv' ha
  cases h4
  obtain ⟨k1, k2⟩ := keep_some h3
  rw [(ev_sound he hu).free1_eq hf]
  exact .same hr hw (quick_run k1 w) (.of_free k2)
 case makeFunc fn first cap =>
  cases fn <;> simp only at ha <;> try cases ha
  rename_i f
  split at ha
  case h_2 => cases ha
  rename_i x y h1 h2
  cases ha
  have k1 := evs_sound he h1
  have k2 := evs_sound he h2
  refine .same hr hw (v' := .func (.func f) (first.map a.eval) (cap.map a.eval)) (by simp only [Instr.makeFunc, Sem.run_pure]) (.func ?_ ?_ ?_ ?_)
  ·simpa using k1.1
  ·intro i u u' p q
   exact k1.2 i u u' (by simpa using p) (by simpa using q)
  ·simpa using k2.1
  ·intro i u u' p q
   exact k2.2 i u u' (by simpa using p) (by simpa using q)
 case makeMap t r =>
  cases r with
  | some _ => cases ha
  | none =>
   simp only [Option.some.injEq, Prod.mk.injEq] at ha
   obtain ⟨rfl, rfl⟩ := ha
   obtain ⟨k1, k2, k3⟩ := makeMap_sound hr hw
   refine .val (v' := .map (some w.heap.size)) ?_ ?_ k1 k2 k3
   ·simp only [Instr.makeMap]; rfl
   ·exact .map (upd_same _ _ _)
 case makeSlice t l c =>
  split at ha
  case h_2 => cases ha
  rename_i n m el hl hc hu
  cases hi : P.info? el with
  | none => rw [hi] at ha; cases ha
  | some i =>
  rw [hi] at ha
  simp only at ha
  cases hz : i.zero with
  | none => rw [hz] at ha; cases ha
  | some z =>
  rw [hz] at ha
  simp only at ha
  split at ha
  case isFalse => cases ha
  rename_i hq
  cases ha
  obtain ⟨c1, c2, c3, c4, c5, c6, c7⟩ := hq
  obtain ⟨v', w', β', k1, k2, k3, k4, k5⟩ := makeSlice_sound hr hw hu hi hz c1 c2 c3 c4 c5 c6 c7
  rw [(ev_sound he hl).free0_eq rfl, (ev_sound he hc).free0_eq rfl]
  exact .val k1 k2 k3 k4 k5
 case slice t x lo hi mx =>
  split at ha
  ·rename_i s l hh m h1 h2 h3 h4
   split at ha
   case isFalse => cases ha
   rename_i hf
   simp only [Bool.and_eq_true] at hf
   obtain ⟨r, h5, h6⟩ := map_inv' ha
   cases h6
   obtain ⟨k1, k2⟩ := keep_some h5
   rw [(ev_sound he h1).free0_eq rfl, ovr_free (evO_sound he h2) hf.1.1, ovr_free (evO_sound he h3) hf.1.2, ovr_free (evO_sound he h4) hf.2]
   exact .same hr hw (quick_run k1 w) (.of_free k2)
  ·rename_i u l hh m _ h1 h2 h3 h4
   obtain ⟨r, h5, h6⟩ := map_inv' ha
   cases h6
   obtain ⟨v', k1, k2⟩ := slice_sound hr hw h5 (ev_sound he h1) (evO_sound he h2) (evO_sound he h3) (evO_sound he h4)
   exact .same hr hw k1 k2
  ·cases ha
 case fieldAddr t x i =>
  split at ha
  case h_2 => cases ha
  rename_i u hu
  obtain ⟨r, h5, h6⟩ := map_inv' ha
  cases h6
  obtain ⟨v', k1, k2⟩ := fieldAddr_sound (w := w) h5 (ev_sound he hu)
  exact .same hr hw k1 k2
 case field t x i =>
  split at ha
  case h_2 => cases ha
  rename_i u hu
  obtain ⟨r, h5, h6⟩ := map_inv' ha
  cases h6
  obtain ⟨v', k1, k2⟩ := field_sound (w := w) h5 (ev_sound he hu)
  exact .same hr hw k1 k2
 case indexAddr t x i =>
  split at ha
  case h_2 => cases ha
  rename_i u n h1 h2
  obtain ⟨r, h5, h6⟩ := map_inv' ha
  cases h6
  obtain ⟨v', k1, k2⟩ := indexAddr_sound (w := w) h5 (ev_sound he h1) (ev_sound he h2)
  exact .same hr hw k1 k2
 case index t x i =>
  split at ha
  case h_2 => cases ha
  rename_i u n h1 h2
  split at ha
  case isFalse => cases ha
  rename_i hf
  simp only [Bool.and_eq_true] at hf
  obtain ⟨r, h5, h6⟩ := map_inv' ha
  cases h6
  obtain ⟨k1, k2⟩ := keep_some h5
  rw [(ev_sound he h1).free1_eq hf.1, (ev_sound he h2).free1_eq hf.2]
  exact .same hr hw (quick_run k1 w) (.of_free k2)
 case lookup t m k ok =>
  split at ha
  case h_2 => cases ha
  rename_i u n h1 h2
  obtain ⟨r, h5, h6⟩ := map_inv' ha
  cases h6
  obtain ⟨v', k1, k2⟩ := lookup_sound hr h5 (ev_sound he h1) (ev_sound he h2)
  exact .same hr hw k1 k2
 case mapUpdate t m k x =>
  split at ha
  case h_2 => cases ha
  rename_i u n y h1 h2 h3
  obtain ⟨r, h5, h6⟩ := map_inv' ha
  cases h6
  obtain ⟨w', k1, k2, k3, k4⟩ := mapUpdate_sound hr hw h5 (ev_sound he h1) (ev_sound he h2) (ev_sound he h3)
  exact .unit k1 k2 k3 k4
 case insert t m k x =>
  split at ha
  case h_2 => cases ha
  rename_i u n y h1 h2 h3
  obtain ⟨r, h5, h6⟩ := map_inv' ha
  cases h6
  obtain ⟨w', k1, k2, k3, k4⟩ := mapUpdate_sound hr hw h5 (ev_sound he h1) (ev_sound he h2) (ev_sound he h3)
  exact .unit k1 k2 k3 k4
 case extract t i =>
  split at ha
  case h_2 => cases ha
  rename_i u hu
  obtain ⟨r, h5, h6⟩ := map_inv' ha
  cases h6
  obtain ⟨v', k1, k2⟩ := extract_sound (w := w) h5 (ev_sound he hu)
  exact .same hr hw k1 k2
 all_goals cases ha
end
end Go.AM
namespace Go.AM
section
variable {P : Program} {β : Ren} {h : AH} {w : World} {e : Tr Value} {a : Act}
theorem lenV_sound (hr : HR β h w) {tys : Array TypeId} {ty : TypeId} {x x' v : Value} (hl : lenV P h tys ty x = some v) (hx : VR β x x') : (Builtin.len_ tys ty #[x']).run P w = .ok v w ∧ AM.free v = true := by
 unfold lenV at hl
 split at hl
 ·rename_i t m ht
  split at hl
  case h_2 => cases hl
  rename_i k el es hu hm
  cases hl
  refine ⟨?_, rfl⟩
  rcases mapOf_sound hr hm hx with ⟨rfl, he⟩ | ⟨g, es', ck, rfl, hg, he⟩
  ·subst he
   simp [Builtin.len_, ht, run_underlying hu]
  ·have := he.1
   simp only [Array.length_toList] at this
   simp [Builtin.len_, ht, run_underlying hu, run_getMap hg, this]
 ·rename_i t ad n c ht
  split at hl
  case h_2 => cases hl
  rename_i el hu
  cases hl
  refine ⟨?_, rfl⟩
  have : ∃ ad' c', x' = .slice ad' n c' := by cases hx <;> exact ⟨_, _, rfl⟩
  obtain ⟨ad', c', rfl⟩ := this
  simp [Builtin.len_, ht, run_underlying hu]
 ·split at hl
  case isFalse => cases hl
  rename_i hf
  obtain ⟨k1, k2⟩ := keep_some hl
  rw [hx.free1_eq hf]
  exact ⟨quick_run k1 w, k2⟩
 ·cases hl
theorem copy_sound (hr : HR β h w) (hw : Wf h) {tys : Array TypeId} {ty : TypeId} {d d' x x' v : Value} {h' : AH} (hl : copyV P h tys d x = some (v, h')) (hd : VR β d d') (hx : VR β x x') :
  ∃ w', (Builtin.copy_ tys ty #[d', x']).run P w = .ok v w' ∧ AM.free v = true ∧ HR β h' w' ∧ Wf h' ∧ Evo β h w β h' w' := by
 unfold copyV at hl
 split at hl
 case h_2 => cases hl
 rename_i t ad len cap ht
 split at hl
 case h_2 => cases hl
 rename_i el m cs hu hc
 cases hsz : szOf P el with
 | none => rw [hsz] at hl; cases hl
 | some sz =>
 rw [hsz] at hl
 simp only at hl
 split at hl
 case isFalse => cases hl
 rename_i hcl
 obtain ⟨k1, cs', k2, _, k4⟩ := cellsV_sound hr hw hu hsz hc hx
 have k5 := k4 (min m len) (Nat.min_le_left _ _) hcl
 have shape : ∃ ad' cap', d' = .slice ad' len cap' := by cases hd <;> exact ⟨_, _, rfl⟩
 split at hl
 ·rename_i h0
  cases hl
  obtain ⟨ad', cap', rfl⟩ := shape
  refine ⟨w, ?_, rfl, hr, hw, .refl _ _ _⟩
  have hm : Nat.min m len = 0 := h0
  rw [h0] at k5
  simp only [Nat.zero_mul, List.take_zero] at k5
  cases ad' with
  | none => simp [Builtin.copy_, ht, run_underlying hu, k1, run_sz hsz, hm, k5]
  | some x0 => simp [Builtin.copy_, ht, run_underlying hu, k1, run_sz hsz, hm, k5, storeCells]
 ·rename_i h0
  split at hl
  case h_2 => cases hl
  rename_i id off
  obtain ⟨h2, h3, h4⟩ := map_inv' hl
  cases h4
  obtain ⟨b, a', cap', hb, hblo, hcr, ha, rfl⟩ := slice_inv hd
  have := hcr.le
  have ha' : a' = b.at_ off := ha.resolve_left (by omega)
  subst ha'
  obtain ⟨w', q1, q2, q3, q4⟩ := storeC_sound P hr hw h3 hb (k2.take (min m len * sz))
  refine ⟨w', ?_, rfl, q2, q3, q4⟩
  have hm : Nat.min m len = min m len := rfl
  simp only [Builtin.copy_, ht, List.getElem?_toArray, List.getElem?_cons_zero, List.getElem?_cons_succ, Sem.run_bind, run_underlying hu, Result.andThen_ok, k1, run_sz hsz, hm, k5, q1, Sem.run_pure]
theorem clear_sound (hr : HR β h w) (hw : Wf h) {tys : Array TypeId} {ty : TypeId} {x x' v : Value} {h' : AH} (hl : clearV P h tys x = some (v, h')) (hx : VR β x x') :
  ∃ w', (Builtin.clear_ tys ty #[x']).run P w = .ok v w' ∧ AM.free v = true ∧ HR β h' w' ∧ Wf h' ∧ Evo β h w β h' w' := by
 unfold clearV at hl
 split at hl
 case h_2 => cases hl
 rename_i t ad len cap ht
 split at hl
 case h_2 => cases hl
 rename_i el hu
 split at hl
 ·rename_i h0
  subst h0
  cases hl
  have : ∃ ad' cap', x' = .slice ad' 0 cap' := by cases hx <;> exact ⟨_, _, rfl⟩
  obtain ⟨ad', cap', rfl⟩ := this
  refine ⟨w, ?_, rfl, hr, hw, .refl _ _ _⟩
  cases ad' <;> simp [Builtin.clear_, ht, run_underlying hu, undef]
 ·rename_i h0
  split at hl
  case h_2 => cases hl
  rename_i z id off hz
  split at hl
  case isFalse => cases hl
  rename_i hc
  obtain ⟨h2, h3, h4⟩ := map_inv' hl
  cases h4
  obtain ⟨b, a', cap', hb, hblo, hcr, ha, rfl⟩ := slice_inv hx
  have := hcr.le
  have ha' : a' = b.at_ off := ha.resolve_left (by omega)
  subst ha'
  obtain ⟨w', q1, q2, q3, q4⟩ := storeC_sound P hr hw h3 hb (VRl.free (zerosC_free (cells_free hc.1) len))
  refine ⟨w', ?_, rfl, q2, q3, q4⟩
  have hzz : (Builtin.zeroCells z.cells len).toList = zerosC z.cells.toList len := by
   unfold Builtin.zeroCells
   rw [zeros_range rfl hc.2]
  obtain ⟨n, rfl⟩ : ∃ n, len = n + 1 := ⟨len - 1, by omega⟩
  simp only [Builtin.clear_, ht, List.getElem?_toArray, List.getElem?_cons_zero, Sem.run_bind, run_underlying hu, Result.andThen_ok, run_zeroV hz, hzz, q1, Sem.run_pure, undef]
theorem VRl.two {x y : Value} {l' : List Value} (hv : VRl β [x, y] l') : ∃ x' y', l' = [x', y'] ∧ VR β x x' ∧ VR β y y' := by
 match l', hv.1 with
 | [x', y'], _ => exact ⟨x', y', rfl, hv.2 0 _ _ rfl rfl, hv.2 1 _ _ rfl rfl⟩
theorem VRl.one {x : Value} {l' : List Value} (hv : VRl β [x] l') : ∃ x', l' = [x'] ∧ VR β x x' := by
 match l', hv.1 with
 | [x'], _ => exact ⟨x', rfl, hv.2 0 _ _ rfl rfl⟩
theorem abuiltin_sound (hr : HR β h w) (hw : Wf h) {b : Builtin} {tys : Array TypeId} {ty : TypeId} {cons : Array Bool} {args args' : List Value} {v : Value} {h' : AH}
  (hb : abuiltin P h b tys ty args = some (v, h')) (hv : VRl β args args') : OkOp P β h w (builtin b tys ty cons ⟨args'⟩) v h' := by
 unfold abuiltin at hb
 split at hb
 ·rename_i x
  obtain ⟨x', rfl, hx⟩ := hv.one
  obtain ⟨u, h1, h2⟩ := map_inv' hb
  cases h2
  obtain ⟨k1, k2⟩ := lenV_sound hr h1 hx
  exact .same hr hw k1 (.of_free k2)
 ·split at hb
  case isFalse => cases hb
  rename_i hf
  obtain ⟨u, h1, h2⟩ := map_inv' hb
  cases h2
  obtain ⟨k1, k2⟩ := keep_some h1
  rw [hv.free_eq hf]
  exact .same hr hw (quick_run k1 w) (.of_free k2)
 ·split at hb
  case isFalse => cases hb
  rename_i hf
  obtain ⟨u, h1, h2⟩ := map_inv' hb
  cases h2
  obtain ⟨k1, k2⟩ := keep_some h1
  rw [hv.free_eq hf]
  exact .same hr hw (quick_run k1 w) (.of_free k2)
 ·rename_i s x
  obtain ⟨s', x', rfl, hs, hx⟩ := hv.two
  split at hb
  case h_2 => cases hb
  rename_i t u h0 h1
  split at hb
  case h_2 => cases hb
  rename_i m cs hc
  split at hc
  ·obtain ⟨v', w', β', k1, k2, k3, k4, k5⟩ := append_soundZ (ty := ty) hr hw h0 h1 hc hb hs hx
   exact .val k1 k2 k3 k4 k5
  ·rename_i hz
   obtain ⟨v', w', β', k1, k2, k3, k4, k5⟩ := append_sound (ty := ty) hr hw h0 h1 (by simpa using hz) hc hb hs hx
   exact .val k1 k2 k3 k4 k5
 ·rename_i d x
  obtain ⟨d', x', rfl, hd, hx⟩ := hv.two
  obtain ⟨w', k1, k2, k3, k4, k5⟩ := copy_sound (ty := ty) hr hw hb hd hx
  exact .val k1 (.of_free k2) k3 k4 k5
 ·rename_i x
  obtain ⟨x', rfl, hx⟩ := hv.one
  obtain ⟨w', k1, k2, k3, k4, k5⟩ := clear_sound (ty := ty) hr hw hb hx
  exact .val k1 (.of_free k2) k3 k4 k5
 ·cases hb
def Named (P : Program) : Prop := ∀ (f : FuncId) (fn : Func), P.funcs[f]? = some fn → fn.body.isSome = true → (fn.name == "runtime.NumGoroutine") = false
structure Open (F : Fence) : Prop where
 fn : ∀ f, F.fn f
 depth : F.depth = none
theorem Open.room {F : Fence} (h : Open F) (k : Nat) : F.room k := fun d hd => by rw [h.depth] at hd; cases hd
theorem Open.deep {F : Fence} (h : Open F) {n : Nat} : F.depth.isSome = true → 1 ≤ n := fun hd => by rw [h.depth] at hd; cases hd
theorem open_wide : Open Fence.wide := ⟨fun _ => trivial, rfl⟩
theorem Open.inRound {F : Fence} (h : Open F) (l : Nat) : Open (F.inRound l) := ⟨h.fn, h.depth⟩
theorem Open.plain {F : Fence} (h : Open F) : Open F.plain := ⟨h.fn, h.depth⟩
def Ends' (β : Ren) (h : AH) (w : World) (v : Value) (h' : AH) : Ending → World → Prop :=
 fun e w' => ∃ v' β', e = .returned v' ∧ VR β' v v' ∧ HR β' h' w' ∧ Wf h' ∧ Evo β h w β' h' w'
def Meets (P : Program) (f : Fn) (args : List Value) (h : AH) (v : Value) (h' : AH) : Prop :=
 ∀ F n β w args', Open F → HR β h w → Wf h → VRl β args args' →
  match f with
  | .func f => CallsIn F n P f ⟨args'⟩ w (Ends' β h w v h')
  | .yield l => ∀ x, β l = some x → ∃ fn tmps assign body, (Instr.yield x.g ⟨args'⟩).run P w = .ok (.round x.g fn tmps assign body) w ∧ RoundIn F n P x.g fn tmps assign body w (Ends' β h w v h')
  | _ => False
structure CallSound (P : Program) (call : Call') : Prop where
 has : ∀ f args h r, call (.func f) args h = some r → ∃ fn, P.funcs[f]? = some fn ∧ fn.body.isSome = true
 meets : ∀ f args h v h', call f args h = some (v, h') → Meets P f args h v h'
def Done (β : Ren) (h : AH) (w : World) (v : Value) (h' : AH) (v' : Value) (w' : World) : Prop := ∃ β', VR β' v v' ∧ HR β' h' w' ∧ Wf h' ∧ Evo β h w β' h' w'
theorem callFunc_run {f : FuncId} {fn : Func} {args : Array Value} (hN : Named P) (h1 : P.funcs[f]? = some fn) (h2 : fn.body.isSome = true) : (callFunc f args).run P w = .ok (.enter f args) w := by
 have q3 := hN _ _ h1 h2
 have hnn : fn.body.isNone = false := by
  cases hbd : fn.body with
  | none => rw [hbd] at h2; cases h2
  | some _ => rfl
 simp only [callFunc, Sem.run_bind, run_program, Result.andThen_ok, h1, q3]
 simp [hnn]
theorem doOp_sound {F : Fence} {n : Nat} {call : Call'} (hF : Open F) (hN : Named P) (hcall : CallSound P call) (hr : HR β h w) (hw : Wf h) (he : EnvW β e a.tmps) {o : Oper} {v : Value} {h' : AH} (ho : doOp P call e h o = some (v, h'))
  {K : Act → World → Prop} {Q : Exit → Act → World → Prop} (hK : ∀ v' w', Done β h w v h' v' w' → K (a.put o.dst v') w') : o.wpIn F n P a w K Q := by
 have hnd : ∀ c, o.op ≠ .defer c := fun c hc => by
  unfold doOp at ho
  rw [hc] at ho
  cases ho
 have fin : OkOp P β h w (execOp a.eval o) v h' → o.wpIn F n P a w K Q := by
  rintro ⟨v', w', β', k1, k2, k3, k4, k5⟩
  refine ⟨fun f _ => hF.fn f, ?_⟩
  rw [Oper.semAt_eq _ _ _ hnd]
  rcases k1 with k1 | ⟨k1, rfl⟩
  ·rw [k1]; exact hK _ _ ⟨β', k2, k3, k4, k5⟩
  ·rw [k1]; exact hK _ _ ⟨β', k2, k3, k4, k5⟩
 have ho0 := ho
 unfold doOp at ho
 split at ho
 case h_2 => exact fin (aop_sound hr hw he o ho)
 rename_i c hop
 unfold doCall at ho
 cases hargs : evs e c.args.toList with
 | none => rw [hargs] at ho; cases ho
 | some args =>
 rw [hargs] at ho
 have hv := evs_sound he hargs
 simp only at ho
 split at ho
 ·rename_i b hb
  refine fin ?_
  have := abuiltin_sound (w := w) (cons := c.args.map fun | .const _ => true | _ => false) hr hw ho hv
  obtain ⟨v', w', β', k1, k2⟩ := this
  refine ⟨v', w', β', ?_, k2⟩
  have e1 : execOp a.eval o = builtin b c.argTypes o.type (c.args.map fun | .const _ => true | _ => false) ⟨c.args.toList.map a.eval⟩ := by
   have : (⟨c.args.toList.map a.eval⟩ : Array Value) = c.args.map a.eval := Array.ext' (by simp)
   rw [this]
   simp only [execOp, hop, resolve, hb]
   rfl
  rw [e1]
  exact k1
 ·rename_i f hf
  split at ho
  case h_2 => cases ho
  rename_i fid first cap hfv
  have hfn := ev_sound he hfv
  have harr : (⟨c.args.toList.map a.eval⟩ : Array Value) = c.args.map a.eval := Array.ext' (by simp)
  generalize heq : a.eval f = fv at hfn
  cases hfn with
  | free _ hf => simp [free0] at hf
  | yield hb =>
   rename_i id x
   simp only [List.nil_append, List.append_nil] at ho
   obtain ⟨fn, tmps, assign, body, q1, q2⟩ := hcall.meets _ _ _ _ _ ho F (n - 1) β w _ hF hr hw hv x hb
   refine ⟨fun f _ => hF.fn f, ?_⟩
   rw [Oper.semAt_eq _ _ _ hnd]
   have e1 : (execOp a.eval o).run P w = .ok (.round x.g fn tmps assign body) w := by
    rw [← q1, harr]
    simp only [execOp, hop, resolve, hf, heq, Deferred.ofValue, invoke, Sem.run_bind, Sem.run_pure, Result.andThen_ok, Array.empty_append]
   rw [e1, Oper.uponIn_round]
   refine ⟨hF.deep, q2.mono fun en w' hen => ?_⟩
   obtain ⟨v', β', rfl, p⟩ := hen
   exact hK _ _ ⟨β', p⟩
  | func m1 m2 m3 m4 =>
   rename_i g first' cap'
   obtain ⟨fn, q1, q2⟩ := hcall.has _ _ _ _ ho
   refine ⟨fun f _ => hF.fn f, ?_⟩
   rw [Oper.semAt_eq _ _ _ hnd]
   have e1 : (execOp a.eval o).run P w = .ok (.enter g (first' ++ ⟨c.args.toList.map a.eval⟩ ++ cap')) w := by
    rw [harr]
    simp only [execOp, hop, resolve, hf, heq, Deferred.ofValue, invoke, Sem.run_bind, Sem.run_pure, Result.andThen_ok, callFunc_run hN q1 q2]
   rw [e1, Oper.uponIn_enter]
   have hall : VRl β (first.toList ++ args ++ cap.toList) (first'.toList ++ c.args.toList.map a.eval ++ cap'.toList) := by
    refine VRl.append (VRl.append ⟨by simpa using m1, fun i u u' x y => m2 i u u' (by simpa using x) (by simpa using y)⟩ hv) ⟨by simpa using m3, fun i u u' x y => m4 i u u' (by simpa using x) (by simpa using y)⟩
   have := hcall.meets _ _ _ _ _ ho F (n - 1) β w _ hF hr hw hall
   have e2 : (⟨first'.toList ++ c.args.toList.map a.eval ++ cap'.toList⟩ : Array Value) = first' ++ ⟨c.args.toList.map a.eval⟩ ++ cap' := Array.ext' (by simp)
   simp only at this
   rw [e2] at this
   refine ⟨hF.deep, this.mono fun en w' hen => ?_⟩
   obtain ⟨v', β', rfl, p⟩ := hen
   exact hK _ _ ⟨β', p⟩
 ·cases ho
structure Priv (β : Ren) (w : World) (b : Nat) : Prop where
 lt : b < w.heap.size
 at_ : w.heap[b]? = some (.deferred (some []))
 no : ∀ id x, β id = some x → x.g ≠ b
def marksOf (bs : List Nat) : List Deferred := bs.map fun b => { target := .collected b, args := #[] }
structure Marks (k0 : Nat) (β : Ren) (w : World) (ds : List Deferred) : Prop where
 ex : ∃ bs : List Nat, ds = marksOf bs ∧ bs.Nodup ∧ ∀ b ∈ bs, k0 ≤ b ∧ Priv β w b
theorem Marks.nil {k0 : Nat} : Marks k0 β w [] := ⟨[], rfl, List.nodup_nil, fun b hb => by cases hb⟩
theorem Priv.evo {β' : Ren} {w' : World} {h' : AH} {b : Nat} (hp : Priv β w b) (hE : Evo β h w β' h' w') : Priv β' w' b := by
 refine ⟨Nat.lt_of_lt_of_le hp.lt hE.size, ?_, fun id x hx hg => ?_⟩
 ·rcases hE.frame b hp.lt with k | ⟨id, x, k1, k2, _⟩
  ·exact k.trans hp.at_
  ·exact absurd k2 (hp.no id x k1)
 ·cases hb : β id with
  | some y =>
   have := hE.sub _ _ hb
   rw [hx] at this; cases this
   exact hp.no id x hb hg
  | none =>
   rcases hE.blk id x hx hb with k | ⟨id0, x0, k1, k2, _⟩
   ·have := hp.lt; omega
   ·exact hp.no id0 x0 k1 (k2.trans hg)
theorem Marks.evo {k0 : Nat} {β' : Ren} {w' : World} {h' : AH} {ds : List Deferred} (hm : Marks k0 β w ds) (hE : Evo β h w β' h' w') : Marks k0 β' w' ds := by
 obtain ⟨bs, k1, k2, k3⟩ := hm.ex
 exact ⟨bs, k1, k2, fun b hb => ⟨(k3 b hb).1, (k3 b hb).2.evo hE⟩⟩
structure Rst (k0 : Nat) (β : Ren) (st : St) (a : Act) (w : World) : Prop where
 hr : HR β st.h w
 hw : Wf st.h
 he : EnvW β st.e a.tmps
 sz : a.tmps.size = st.sz
 hd : Marks k0 β w a.defers
theorem wantedA_eq {tmps : Array Value} {b : Bool} {ops : Array Oper} {o : Oper} (he : EnvW β e tmps) (hq : wantedA ops e o = some b) : Region.wanted o (yielded ops tmps) = b := by
 unfold wantedA at hq
 unfold Region.wanted
 cases hg : o.guard with
 | none => rw [hg] at hq; cases hq; rfl
 | some gb =>
  obtain ⟨g, want⟩ := gb
  rw [hg] at hq
  simp only at hq ⊢
  unfold yielded
  cases hd : (ops[g]?).bind (·.dst) with
  | none => rw [hd] at hq; cases hq; rfl
  | some t =>
   rw [hd] at hq
   simp only at hq ⊢
   cases ht : e.get t with
   | none => rw [ht] at hq; cases hq
   | some u =>
    rw [ht] at hq
    obtain ⟨u', h1, h2⟩ := he t u ht
    simp only [Option.bind_some]
    rw [h1]
    cases u with
    | bool b' =>
     cases hq
     rw [h2.free0_eq rfl]
     cases b' <;> cases want <;> rfl
    | _ => cases hq; cases h2 <;> rfl
theorem putE_sound {sz : Nat} (he : EnvW β e a.tmps) (hsz : a.tmps.size = sz) {d : Option Nat} {v v' : Value} {e' : Tr Value} (hp : putE e sz d v = some e') (hv : VR β v v') : EnvW β e' (a.put d v').tmps := by
 cases d with
 | none => cases hp; exact he
 | some d =>
  simp only [putE] at hp
  split at hp
  ·cases hp; exact he.set (by omega) hv
  ·cases hp
theorem put_defers {d : Option Nat} {v : Value} : (a.put d v).defers = a.defers := by cases d <;> rfl
theorem put_size {d : Option Nat} {v : Value} : (a.put d v).tmps.size = a.tmps.size := by cases d <;> simp [Act.put]
theorem step1_sound {k0 : Nat} {F : Fence} {n : Nat} {call : Call'} (hF : Open F) (hN : Named P) (hcall : CallSound P call) {ops : Array Oper} {o : Oper} {st st' : St} (hs : step1 P call ops o st = some st') (hR : Rst k0 β st a w) {K : Act → World → Prop} {Q : Exit → Act → World → Prop}
  (hK : ∀ a' w' β', Rst k0 β' st' a' w' → Evo β st.h w β' st'.h w' → K a' w') :
  if Region.wanted o (yielded ops a.tmps) then o.wpIn F n P a w K Q else (∀ f, o.about P w a.eval = some f → F.fn f) ∧ K (a.put o.dst undef) w := by
 unfold step1 at hs
 split at hs
 ·rename_i hwant
  rw [wantedA_eq hR.he hwant, if_pos rfl]
  cases hd : doOp P call st.e st.h o with
  | none => rw [hd] at hs; cases hs
  | some r =>
   obtain ⟨v, h'⟩ := r
   rw [hd] at hs
   obtain ⟨e', h1, h2⟩ := map_inv' hs
   cases h2
   refine doOp_sound hF hN hcall hR.hr hR.hw hR.he hd fun v' w' hdone => ?_
   obtain ⟨β', k1, k2, k3, k4⟩ := hdone
   exact hK _ _ β' ⟨k2, k3, putE_sound (hR.he.mono k4.sub) hR.sz h1 k1, by rw [put_size]; exact hR.sz, by rw [put_defers]; exact hR.hd.evo k4⟩ k4
 ·rename_i hwant
  rw [wantedA_eq hR.he hwant, if_neg (by simp)]
  obtain ⟨e', h1, h2⟩ := map_inv' hs
  cases h2
  exact ⟨fun f _ => hF.fn f, hK _ _ β ⟨hR.hr, hR.hw, putE_sound hR.he hR.sz h1 (.of_free rfl), by rw [put_size]; exact hR.sz, by rw [put_defers]; exact hR.hd⟩ (.refl _ _ _)⟩
 ·cases hs
theorem runOps_sound {k0 : Nat} {F : Fence} {n : Nat} {call : Call'} (hF : Open F) (hN : Named P) (hcall : CallSound P call) {ops : Array Oper} {Q : Exit → Act → World → Prop} : ∀ (l : List Oper) {β : Ren} {a : Act} {w : World} {st st' : St}, runOps P call ops l st = some st' → Rst k0 β st a w →
  (∀ a' w' β', Rst k0 β' st' a' w' → Evo β st.h w β' st'.h w' → Q .normal a' w') → wpListIn F n P ops Q l a w
 | [], β, a, w, st, st', hs, hR, hQ => by
  cases hs
  exact hQ a w β hR (.refl _ _ _)
 | o :: rest, β, a, w, st, st', hs, hR, hQ => by
  simp only [runOps] at hs
  cases h1 : step1 P call ops o st with
  | none => rw [h1] at hs; cases hs
  | some s1 =>
   rw [h1] at hs
   have := step1_sound (F := F) (n := n) (K := wpListIn F n P ops Q rest) (Q := Q) hF hN hcall h1 hR fun a' w' β' hR' hE => runOps_sound hF hN hcall rest hs hR' fun a2 w2 β2 hR2 hE2 => hQ a2 w2 β2 hR2 (hE.trans hR.hr hE2)
   simp only [wpListIn]
   split
   ·rename_i hwant
    rw [if_pos hwant] at this
    exact this
   ·rename_i hwant
    rw [if_neg hwant] at this
    exact this
end
end Go.AM
namespace Go.AM
section
variable {P : Program} {e e2 : Tr Value} {h : AH}
theorem evs_congr : ∀ {xs : List Operand}, (∀ x ∈ xs, ev e x = ev e2 x) → evs e xs = evs e2 xs
 | [], _ => rfl
 | x :: r, hx => by
  simp only [evs, hx x (List.mem_cons_self), evs_congr (xs := r) (fun y hy => hx y (List.mem_cons_of_mem _ hy))]
theorem evP_congr : ∀ {xs : List (Nat × Operand)}, (∀ x ∈ xs, ev e x.2 = ev e2 x.2) → evP e xs = evP e2 xs
 | [], _ => rfl
 | (k, x) :: r, hx => by
  simp only [evP, hx (k, x) (List.mem_cons_self), evP_congr (xs := r) (fun y hy => hx y (List.mem_cons_of_mem _ hy))]
theorem evO_congr {x : Option Operand} (hx : ∀ y, x = some y → ev e y = ev e2 y) : evO e x = evO e2 x := by
 cases x with
 | none => rfl
 | some y => simp only [evO, hx y rfl]
theorem aop_congr (op : Op) (hx : ∀ x ∈ op.operands, ev e x = ev e2 x) : aop P e h op = aop P e2 h op := by
 cases op <;> simp only [aop, Op.operands] at hx ⊢
 case move x => rw [hx x (by simp)]
 case assign x => rw [hx x (by simp)]
 case pick c x y =>
  rw [hx c (by simp)]
  cases ev e2 c with
  | none => rfl
  | some v =>
   cases v with
   | bool q => cases q <;> simp [hx x (by simp), hx y (by simp)]
   | _ => rfl
 case box t x => rw [hx x (by simp)]
 case build t parts => rw [evP_congr (xs := parts.toList) (fun q hq => hx q.2 (by simpa using ⟨q.1, Array.mem_toList_iff.1 hq⟩))]
 case buildSlice t n parts => rw [evP_congr (xs := parts.toList) (fun q hq => hx q.2 (by simpa using ⟨q.1, Array.mem_toList_iff.1 hq⟩))]
 case load t x => rw [hx x (by simp)]
 case store t x y => rw [hx x (by simp), hx y (by simp)]
 case nilCheck x => rw [hx x (by simp)]
 case binOp b t x y yt => rw [hx x (by simp), hx y (by simp)]
 case unOp b t x => rw [hx x (by simp)]
 case convert s d x => rw [hx x (by simp)]
 case makeFunc f x y => 
  cases f <;> simp only
  rw [evs_congr (xs := x.toList) (fun q hq => hx q (by simp [Array.mem_toList_iff.1 hq])), evs_congr (xs := y.toList) (fun q hq => hx q (by simp [Array.mem_toList_iff.1 hq]))]
 case makeMap t r => cases r <;> rfl
 case makeSlice t x y => rw [hx x (by simp), hx y (by simp)]
 case slice t x lo hi mx =>
  rw [hx x (by simp), evO_congr (x := lo) (fun y hy => hx y (by simp [hy])), evO_congr (x := hi) (fun y hy => hx y (by simp [hy])), evO_congr (x := mx) (fun y hy => hx y (by simp [hy]))]
 case fieldAddr t x i => rw [hx x (by simp)]
 case field t x i => rw [hx x (by simp)]
 case indexAddr t x y => rw [hx x (by simp), hx y (by simp)]
 case index t x y => rw [hx x (by simp), hx y (by simp)]
 case lookup t x y k => rw [hx x (by simp), hx y (by simp)]
 case mapUpdate t x y z => rw [hx x (by simp), hx y (by simp), hx z (by simp)]
 case insert t x y z => rw [hx x (by simp), hx y (by simp), hx z (by simp)]
 case extract x i => rw [hx x (by simp)]
 all_goals rfl
theorem doOp_congr {call : Call'} {o : Oper} (hx : ∀ x ∈ o.op.operands, ev e x = ev e2 x) : doOp P call e h o = doOp P call e2 h o := by
 unfold doOp
 split
 ·rename_i c hc
  rw [hc] at hx
  simp only [Op.operands, Call.operands] at hx
  unfold doCall
  rw [evs_congr (xs := c.args.toList) (fun q hq => hx q (by simp [Array.mem_toList_iff.1 hq]))]
  cases evs e2 c.args.toList with
  | none => rfl
  | some args =>
   simp only
   split
   ·rfl
   ·rename_i f hf
    rw [hf] at hx
    rw [hx f (by simp)]
   ·rfl
 ·exact aop_congr _ hx
theorem readId_congr {op : Op} (hx : ∀ x ∈ op.operands, ev e x = ev e2 x) : readId e op = readId e2 op := by
 cases op <;> simp only [readId, Op.operands] at hx ⊢
 case load t x => rw [hx x (by simp)]
 case slice t x lo hi mx => rw [hx x (by simp)]
 case lookup t x y k => rw [hx x (by simp)]
end
inductive Cl (n : Nat) : Value → Prop where
 | free (v : Value) : free0 v = true → Cl n v
 | ptr {id off : Nat} : id < n → Cl n (.pointer (some ⟨id, off, none⟩))
 | slice {id off len cap : Nat} : id < n → Cl n (.slice (some ⟨id, off, none⟩) len cap)
 | empty : Cl n (.slice none 0 1)
 | map {id : Nat} : id < n → Cl n (.map (some id))
 | yield {id : Nat} : id < n → Cl n (.func (.yield id) #[] #[])
 | func {f : FuncId} {a c : Array Value} : (∀ (i : Nat) (v : Value), a[i]? = some v → Cl n v) → (∀ (i : Nat) (v : Value), c[i]? = some v → Cl n v) → Cl n (.func (.func f) a c)
 | iface {t : TypeId} {v : Value} : Cl n v → Cl n (.iface t v)
 | agg {a : Array Value} : (∀ (i : Nat) (v : Value), a[i]? = some v → Cl n v) → Cl n (.agg a)
 | tuple {a : Array Value} : (∀ (i : Nat) (v : Value), a[i]? = some v → Cl n v) → Cl n (.tuple a)
theorem arr_at {a a' : Array Value} (h : a.size = a'.size) {i : Nat} {v : Value} (hi : a[i]? = some v) : ∃ v', a'[i]? = some v' := by
 have : i < a'.size := by
  rw [← h]
  rcases Nat.lt_or_ge i a.size with q | q
  ·exact q
  ·rw [Array.getElem?_eq_none q] at hi; cases hi
 exact ⟨_, Array.getElem?_eq_getElem this⟩
theorem Cl.of_vr {β : Ren} {n : Nat} (hd : ∀ id x, β id = some x → id < n) {v v' : Value} (h : VR β v v') : Cl n v := by
 induction h with
 | free v hv => exact .free v hv
 | ptr hb _ => exact .ptr (hd _ _ hb)
 | slice hb _ _ _ => exact .slice (hd _ _ hb)
 | empty => exact .empty
 | map hb => exact .map (hd _ _ hb)
 | yield hb => exact .yield (hd _ _ hb)
 | func h1 _ h2 _ ih1 ih2 =>
  exact .func (fun i v hi => let ⟨v', hv'⟩ := arr_at h1 hi; ih1 i v v' hi hv') (fun i v hi => let ⟨v', hv'⟩ := arr_at h2 hi; ih2 i v v' hi hv')
 | iface _ ih => exact .iface ih
 | agg h1 _ ih => exact .agg fun i v hi => let ⟨v', hv'⟩ := arr_at h1 hi; ih i v v' hi hv'
 | tuple h1 _ ih => exact .tuple fun i v hi => let ⟨v', hv'⟩ := arr_at h1 hi; ih i v v' hi hv'
def res (β : Ren) (n : Nat) : Ren := fun id => if id < n then β id else none
theorem res_some {β : Ren} {n id : Nat} {x : Bx} (h : res β n id = some x) : id < n ∧ β id = some x := by
 unfold res at h
 split at h
 ·exact ⟨‹_›, h⟩
 ·cases h
theorem res_lt {β : Ren} {n id : Nat} (h : id < n) : res β n id = β id := if_pos h
theorem VR.res {β : Ren} {n : Nat} {v v' : Value} (h : VR β v v') (hc : Cl n v) : VR (AM.res β n) v v' := by
 induction h with
 | free v hv => exact .free v hv
 | ptr hb hl =>
  cases hc with
  | free _ hf => simp [free0] at hf
  | ptr hn => exact .ptr (by rw [res_lt hn]; exact hb) hl
 | slice hb hl hcr ha =>
  cases hc with
  | free _ hf => simp [free0] at hf
  | slice hn => exact .slice (by rw [res_lt hn]; exact hb) hl hcr ha
 | empty => exact .empty
 | map hb =>
  cases hc with
  | free _ hf => simp [free0] at hf
  | map hn => exact .map (by rw [res_lt hn]; exact hb)
 | yield hb =>
  cases hc with
  | free _ hf => simp [free0] at hf
  | yield hn => exact .yield (by rw [res_lt hn]; exact hb)
 | func h1 _ h2 _ ih1 ih2 =>
  cases hc with
  | free _ hf => simp [free0] at hf
  | func c1 c2 => exact .func h1 (fun i v v' a b => ih1 i v v' a b (c1 i v a)) h2 (fun i v v' a b => ih2 i v v' a b (c2 i v a))
 | iface _ ih =>
  cases hc with
  | free _ hf => simp [free0] at hf
  | iface c => exact .iface (ih c)
 | agg h1 _ ih =>
  cases hc with
  | free _ hf => simp [free0] at hf
  | agg c => exact .agg h1 fun i v v' a b => ih i v v' a b (c i v a)
 | tuple h1 _ ih =>
  cases hc with
  | free _ hf => simp [free0] at hf
  | tuple c => exact .tuple h1 fun i v v' a b => ih i v v' a b (c i v a)
theorem floats_heap {P : Program} {e : Tr Value} {h h' : AH} {op : Op} {v : Value} (hf : floats op = true) (ha : aop P e h op = some (v, h')) :
  h' = h ∨ ∃ ob, h' = { h with t := h.t.set h.next ob, next := h.next + 1 } := by
 cases op <;> simp only [floats, Bool.false_eq_true] at hf <;> simp only [aop] at ha
 case move x => left; obtain ⟨_, _, h2⟩ := map_inv' ha; cases h2; rfl
 case assign x => left; obtain ⟨_, _, h2⟩ := map_inv' ha; cases h2; rfl
 case pick c x y =>
  left
  split at ha
  ·obtain ⟨_, _, h2⟩ := map_inv' ha; cases h2; rfl
  ·cases ha
 case alloc t =>
  right
  split at ha
  ·split at ha
   ·cases ha; exact ⟨_, rfl⟩
   ·cases ha
  ·cases ha
 case box t x => right; obtain ⟨_, _, h2⟩ := map_inv' ha; cases h2; exact ⟨_, rfl⟩
 case build t parts =>
  left
  split at ha
  ·split at ha
   ·obtain ⟨_, _, h2⟩ := map_inv' ha; cases h2; rfl
   ·cases ha
  ·cases ha
 case buildSlice t n parts =>
  right
  split at ha
  ·split at ha
   ·split at ha
    ·split at ha
     ·cases ha; exact ⟨_, rfl⟩
     ·cases ha
    ·cases ha
   ·cases ha
  ·cases ha
 case load t x =>
  left
  split at ha
  ·obtain ⟨_, _, h2⟩ := map_inv' ha; cases h2; rfl
  ·cases ha
 case nilCheck x =>
  left
  split at ha
  ·cases ha; rfl
  ·cases ha
 case binOp b t x y yt =>
  left
  split at ha
  ·obtain ⟨_, _, h2⟩ := map_inv' ha; cases h2; rfl
  ·cases ha
 case unOp b t x =>
  left
  split at ha
  ·split at ha
   ·obtain ⟨_, _, h2⟩ := map_inv' ha; cases h2; rfl
   ·cases ha
  ·cases ha
 case convert s d x =>
  left
  split at ha
  ·split at ha
   ·obtain ⟨_, _, h2⟩ := map_inv' ha; cases h2; rfl
   ·cases ha
  ·cases ha
 case makeFunc f x y =>
  left
  cases f <;> simp only at ha <;> try cases ha
  split at ha
  ·cases ha; rfl
  ·cases ha
 case makeMap t r =>
  right
  cases r with
  | some _ => cases ha
  | none => simp only [Option.some.injEq, Prod.mk.injEq] at ha; exact ⟨_, ha.2.symm⟩
 case makeSlice t x y =>
  right
  split at ha
  ·split at ha
   ·split at ha
    ·split at ha
     ·cases ha; exact ⟨_, rfl⟩
     ·cases ha
    ·cases ha
   ·cases ha
  ·cases ha
 case slice t x lo hi mx =>
  left
  split at ha
  ·split at ha
   ·obtain ⟨_, _, h2⟩ := map_inv' ha; cases h2; rfl
   ·cases ha
  ·obtain ⟨_, _, h2⟩ := map_inv' ha; cases h2; rfl
  ·cases ha
 case fieldAddr t x i =>
  left
  split at ha
  ·obtain ⟨_, _, h2⟩ := map_inv' ha; cases h2; rfl
  ·cases ha
 case field t x i =>
  left
  split at ha
  ·obtain ⟨_, _, h2⟩ := map_inv' ha; cases h2; rfl
  ·cases ha
 case indexAddr t x y =>
  left
  split at ha
  ·obtain ⟨_, _, h2⟩ := map_inv' ha; cases h2; rfl
  ·cases ha
 case index t x y =>
  left
  split at ha
  ·split at ha
   ·obtain ⟨_, _, h2⟩ := map_inv' ha; cases h2; rfl
   ·cases ha
  ·cases ha
 case lookup t x y k =>
  left
  split at ha
  ·obtain ⟨_, _, h2⟩ := map_inv' ha; cases h2; rfl
  ·cases ha
 case extract x i =>
  left
  split at ha
  ·obtain ⟨_, _, h2⟩ := map_inv' ha; cases h2; rfl
  ·cases ha
theorem still_ext {P : Program} {e : Tr Value} {h g : AH} {op : Op} {v : Value} (hf : floats op = true) (ha : aop P e h op = some (v, h))
  (hr : ∀ id, readId e op = some id → g.fam id = h.fam id ∧ g.t.get id = h.t.get id) : aop P e g op = some (v, g) := by
 have hkeep : ∀ {o : Option Value}, o.map (·, h) = some (v, h) → o.map (·, g) = some (v, g) := by
  intro o ho
  cases o with
  | none => cases ho
  | some u => simp at ho; subst ho; rfl
 have hne : ∀ {t : Tr AObj}, (⟨t, h.next + 1, h.wr⟩ : AH) ≠ h := fun hq => by have := congrArg AH.next hq; simp at this
 have hne2 : ∀ {cs : List Value}, (newRow h cs).2 ≠ h := fun hq => hne hq
 cases op <;> simp only [floats, Bool.false_eq_true] at hf <;> simp only [aop] at ha ⊢
 case move x => exact hkeep ha
 case assign x => exact hkeep ha
 case pick c x y =>
  split at ha
  ·exact hkeep ha
  ·cases ha
 case alloc t =>
  split at ha
  ·split at ha
   ·have := congrArg Prod.snd (Option.some.inj ha); exact absurd this hne2
   ·cases ha
  ·cases ha
 case box t x =>
  obtain ⟨_, _, h2⟩ := map_inv' ha
  exact absurd (congrArg Prod.snd h2) hne2
 case build t parts =>
  split at ha
  ·split at ha
   ·rename_i hc; rw [if_pos hc]; exact hkeep ha
   ·cases ha
  ·cases ha
 case buildSlice t n parts =>
  split at ha
  ·split at ha
   ·split at ha
    ·split at ha
     ·have := congrArg Prod.snd (Option.some.inj ha); exact absurd this hne2
     ·cases ha
    ·cases ha
   ·cases ha
  ·cases ha
 case load t x =>
  split at ha
  case h_2 => cases ha
  rename_i p hp
  have : loadV P g t p = loadV P h t p := by
   unfold loadV
   split
   ·rename_i id off
    have h1 : readId e (.load t x) = some id := by simp [readId, hp]
    have h2 := (hr _ h1).1
    have h3 : ∀ k, loadC g id off k = loadC h id off k := fun k => by unfold loadC; rw [h2]
    simp only [h3]
   ·rfl
  rw [this]
  exact hkeep ha
 case nilCheck x =>
  split at ha
  ·cases ha; rfl
  ·cases ha
 case binOp b t x y yt =>
  split at ha
  ·exact hkeep ha
  ·cases ha
 case unOp b t x =>
  split at ha
  ·split at ha
   ·rename_i hc; rw [if_pos hc]; exact hkeep ha
   ·cases ha
  ·cases ha
 case convert s d x =>
  split at ha
  ·split at ha
   ·rename_i hc; rw [if_pos hc]; exact hkeep ha
   ·cases ha
  ·cases ha
 case makeFunc f x y =>
  cases f <;> simp only at ha ⊢ <;> try cases ha
  split at ha
  ·cases ha; rfl
  ·cases ha
 case makeMap t r =>
  cases r with
  | some _ => cases ha
  | none => simp only [Option.some.injEq, Prod.mk.injEq] at ha; exact absurd ha.2 hne
 case makeSlice t x y =>
  split at ha
  ·split at ha
   ·split at ha
    ·split at ha
     ·have := congrArg Prod.snd (Option.some.inj ha); exact absurd this hne2
     ·cases ha
    ·cases ha
   ·cases ha
  ·cases ha
 case slice t x lo hi mx =>
  split at ha
  ·split at ha
   ·rename_i hc; rw [if_pos hc]; exact hkeep ha
   ·cases ha
  ·rename_i u l hh m hns h1 h2 h3 h4
   have : sliceV P g t u l hh m = sliceV P h t u l hh m := by
    unfold sliceV
    split
    ·rename_i el ad len cap hu
     split
     ·split
      ·rfl
      ·split
       ·split
        ·rfl
        ·rename_i id off _
         have k1 : readId e (.slice t x lo hi mx) = some id := by simp [readId, h1]
         have k2 := (hr _ k1).1
         have k3 : ∀ k, loadC g id off k = loadC h id off k := fun k => by unfold loadC; rw [k2]
         simp only [k3]
        ·rfl
       ·rfl
     ·rfl
    ·rfl
   rw [this]
   exact hkeep ha
  ·cases ha
 case fieldAddr t x i =>
  split at ha
  ·exact hkeep ha
  ·cases ha
 case field t x i =>
  split at ha
  ·exact hkeep ha
  ·cases ha
 case indexAddr t x y =>
  split at ha
  ·exact hkeep ha
  ·cases ha
 case index t x y =>
  split at ha
  ·split at ha
   ·rename_i hc; rw [if_pos hc]; exact hkeep ha
   ·cases ha
  ·cases ha
 case lookup t x y k =>
  split at ha
  case h_2 => cases ha
  rename_i m u hm hu
  have : lookupV P g t m u k = lookupV P h t m u k := by
   have hmo : mapOf g m = mapOf h m := by
    unfold mapOf
    split
    ·rfl
    ·rename_i r
     have k1 : readId e (.lookup t x y k) = some r := by simp [readId, hm]
     rw [(hr _ k1).2]
    ·rfl
   unfold lookupV
   rw [hmo]
  rw [this]
  exact hkeep ha
 case extract x i =>
  split at ha
  ·exact hkeep ha
  ·cases ha
end Go.AM
namespace Go.AM
section
variable {P : Program} {β β' : Ren} {h h' : AH} {w w' : World} {e : Tr Value} {a : Act}
theorem HR.wr_any (hr : HR β h w) (n : Nat) : HR β { h with wr := n } w := ⟨hr.dom, hr.row, hr.map, hr.loop, hr.disj⟩
theorem Wf.wr_any (hw : Wf h) (n : Nat) : Wf { h with wr := n } := ⟨hw.lt, hw.lon, hw.curn, hw.stale, hw.cur, hw.ali⟩
theorem HR.heap (hr : HR β h w) (hq : w'.heap = w.heap) : HR β h w' :=
 ⟨fun id x k => by rw [hq]; exact hr.dom id x k, fun id x f k l => by
  obtain ⟨m1, c, el, fz, m2, m3⟩ := hr.row id x f k l
  exact ⟨m1, c, el, fz, by rw [hq]; exact m2, m3⟩, fun id x es ck k l => by rw [hq]; exact hr.map id x es ck k l, fun id x r k l => by rw [hq]; exact hr.loop id x r k l, hr.disj⟩
theorem Evo.wr_min {m : Nat} (hE : Evo β { h with wr := m } w β' h' w') : Evo β h w β' { h' with wr := min h.wr h'.wr } w' where
 sub := hE.sub
 new := hE.new
 all := hE.all
 blk := fun id x k1 k2 => by
  rcases hE.blk id x k1 k2 with q | ⟨id0, x0, q1, q2, q3, q4⟩
  ·exact .inl q
  ·exact .inr ⟨id0, x0, q1, q2, Nat.le_trans (Nat.min_le_right _ _) q3, q4⟩
 size := hE.size
 os := hE.os
 tape := hE.tape
 output := hE.output
 frame := fun b hb => by
  rcases hE.frame b hb with q | ⟨id0, x0, q1, q2, q3, q4⟩
  ·exact .inl q
  ·exact .inr ⟨id0, x0, q1, q2, Nat.le_trans (Nat.min_le_right _ _) q3, q4⟩
 next := hE.next
 wr := Nat.min_le_left _ _
 root := hE.root
 ro := hE.ro
 objs := fun id k1 k2 => hE.objs id k1 (Nat.lt_of_lt_of_le k2 (Nat.min_le_right _ _))
def Ran (P : Program) (call : Call') (ops : Array Oper) (o : Oper) (e : Tr Value) (h : AH) (v : Value) (h' : AH) : Prop :=
 (wantedA ops e o = some true ∧ doOp P call e h o = some (v, h')) ∨ (wantedA ops e o = some false ∧ v = undef ∧ h' = h)
theorem ran_sound {F : Fence} {n : Nat} {call : Call'} (hF : Open F) (hN : Named P) (hcall : CallSound P call) {ops : Array Oper} {o : Oper} {v : Value} (hr : HR β h w) (hw : Wf h) (he : EnvW β e a.tmps)
  (ho : Ran P call ops o e h v h') {K : Act → World → Prop} {Q : Exit → Act → World → Prop}
  (hK : ∀ v' w', Done β h w v h' v' w' → K (a.put o.dst v') w') :
  if Region.wanted o (yielded ops a.tmps) then o.wpIn F n P a w K Q else (∀ f, o.about P w a.eval = some f → F.fn f) ∧ K (a.put o.dst undef) w := by
 rcases ho with ⟨hw1, hd⟩ | ⟨hw1, rfl, rfl⟩
 ·rw [wantedA_eq he hw1, if_pos rfl]
  exact doOp_sound hF hN hcall hr hw he hd hK
 ·rw [wantedA_eq he hw1, if_neg (by simp)]
  exact ⟨fun f _ => hF.fn f, hK _ _ ⟨β, .of_free rfl, hr, hw, .refl _ _ _⟩⟩
theorem wp_get {n : Nat} {o : Oper} {K : Act → World → Prop} (hh : o.wpIn Fence.wide n P a w K (fun _ _ _ => False)) : ∃ a' w', K a' w' := by
 obtain ⟨_, hh⟩ := hh
 generalize (o.semAt Fence.wide.round a.eval).run P w = r at hh
 cases r with
 | ok m w1 =>
  cases m with
  | value v => exact ⟨_, _, hh⟩
  | skip => exact ⟨_, _, hh⟩
  | defer d => exact ⟨_, _, hh⟩
  | enter f args =>
   rw [Oper.uponIn_enter] at hh
   obtain ⟨en, w2, fr, hR, _⟩ := hh.2.2 [] (open_wide.room _)
   cases en with
   | returned v => exact ⟨_, _, hR⟩
   | panicked c => exact hR.elim
   | outgrown => obtain ⟨_, _, q⟩ := hR; exact q.elim
  | row row args =>
   rw [Oper.uponIn_row] at hh
   obtain ⟨v, w2, hR, _⟩ := hh.2 (Frame.enter P 0 #[] .normal) [] (open_wide.room _)
   exact ⟨_, _, hR⟩
  | round l f tmps assign body =>
   rw [Oper.uponIn_round] at hh
   obtain ⟨en, w2, hR, _⟩ := hh.2.2 (Frame.enter P 0 #[] .normal) [] (open_wide.room _)
   cases en with
   | returned v => exact ⟨_, _, hR⟩
   | panicked c => exact hR.elim
   | outgrown => obtain ⟨_, _, q⟩ := hR; exact q.elim
  | _ => exact False.elim hh
 | halt x w1 =>
  cases x <;> exact False.elim hh
theorem ran_get {call : Call'} (hN : Named P) (hcall : CallSound P call) {ops : Array Oper} {o : Oper} {v : Value} (hr : HR β h w) (hw : Wf h) (he : EnvW β e a.tmps)
  (ho : Ran P call ops o e h v h') : ∃ v' w', Done β h w v h' v' w' := by
 have := ran_sound (F := Fence.wide) (n := 0) (Q := fun _ _ _ => False) (K := fun _ _ => ∃ v' w', Done β h w v h' v' w') open_wide hN hcall hr hw he ho fun v' w' hd => ⟨v', w', hd⟩
 split at this
 ·obtain ⟨_, _, q⟩ := wp_get this; exact q
 ·exact this.2
theorem draw1_ran {call : Call'} {ops : Array Oper} {o : Oper} {s s' : St} {x : Inf} (hB : s.h.wr ≤ BIG) (hd : draw1 P call ops o s = some (s', x)) :
  ∃ v h', Ran P call ops o s.e { s.h with wr := BIG } v h' ∧ putE s.e s.sz o.dst v = some s'.e ∧ s'.sz = s.sz ∧ s'.h = { h' with wr := min s.h.wr h'.wr } ∧ x.w = h'.wr ∧
   (x.quiet = true → s.h.next ≤ BIG → s.h.next ≤ h'.wr) ∧
   (x.still = true → h' = { s.h with wr := BIG } ∧ (wantedA ops s.e o = some true → floats o.op = true ∧ ∀ id, readId s.e o.op = some id → x.root = some (max id (rootOf s.h id)) ∧ max id (rootOf s.h id) < s.h.next)) := by
 unfold draw1 at hd
 split at hd
 ·rename_i hwant
  cases hdo : doOp P call s.e { s.h with wr := BIG } o with
  | none => rw [hdo] at hd; cases hd
  | some r =>
   obtain ⟨v, h'⟩ := r
   rw [hdo] at hd
   simp only at hd
   cases hp : putE s.e s.sz o.dst v with
   | none => rw [hp] at hd; cases hd
   | some e' =>
    rw [hp] at hd
    simp only [Option.map_some, Option.some.injEq, Prod.mk.injEq] at hd
    obtain ⟨rfl, rfl⟩ := hd
    refine ⟨v, h', .inl ⟨hwant, hdo⟩, hp, rfl, rfl, rfl, fun q _ => of_decide_eq_true q, fun q => ?_⟩
    simp only [Bool.and_eq_true, beq_iff_eq] at q
    obtain ⟨⟨q1, q2⟩, q3⟩ := q
    have ha : aop P s.e { s.h with wr := BIG } o.op = some (v, h') := by
     unfold doOp at hdo
     split at hdo
     ·rename_i c hc; rw [hc] at q1; cases q1
     ·exact hdo
    refine ⟨?_, fun _ => ⟨q1, fun id hid => ?_⟩⟩
    ·rcases floats_heap q1 ha with k | ⟨ob, k⟩
     ·exact k
     ·rw [k] at q2
      simp at q2
    ·rw [hid] at q3 ⊢
     exact ⟨rfl, of_decide_eq_true q3⟩
 ·rename_i hwant
  cases hp : putE s.e s.sz o.dst undef with
  | none => rw [hp] at hd; cases hd
  | some e' =>
   rw [hp] at hd
   simp only [Option.map_some, Option.some.injEq, Prod.mk.injEq] at hd
   obtain ⟨rfl, rfl⟩ := hd
   refine ⟨undef, { s.h with wr := BIG }, .inr ⟨hwant, rfl, rfl⟩, hp, rfl, ?_, rfl, fun _ q => q, fun _ => ⟨rfl, fun q => by rw [hwant] at q; cases q⟩⟩
   show s.h = { s.h with wr := min s.h.wr BIG }
   rw [Nat.min_eq_left hB]
 ·cases hd
theorem drawGo_tra {call : Call'} {ops : Array Oper} : ∀ (l : List Oper) {s s' : St} {xs : List Inf}, drawGo P call ops l s = some (s', xs) →
  ∃ (S : Nat → St) (I : Nat → Inf), S 0 = s ∧ S l.length = s' ∧ xs.length = l.length ∧ ∀ k, k < l.length → xs[k]? = some (I k) ∧ ∃ o, l[k]? = some o ∧ draw1 P call ops o (S k) = some (S (k + 1), I k)
 | [], s, s', xs, hd => by
  simp only [drawGo, Option.some.injEq, Prod.mk.injEq] at hd
  obtain ⟨rfl, rfl⟩ := hd
  exact ⟨fun _ => s, fun _ => ⟨true, none, true, 0⟩, rfl, rfl, rfl, fun k hk => absurd hk (Nat.not_lt_zero k)⟩
 | o :: rest, s, s', xs, hd => by
  simp only [drawGo] at hd
  cases h1 : draw1 P call ops o s with
  | none => rw [h1] at hd; cases hd
  | some r =>
   obtain ⟨s1, x⟩ := r
   rw [h1] at hd
   simp only at hd
   cases h2 : drawGo P call ops rest s1 with
   | none => rw [h2] at hd; cases hd
   | some r2 =>
    obtain ⟨s2, l⟩ := r2
    rw [h2] at hd
    simp only [Option.some.injEq, Prod.mk.injEq] at hd
    obtain ⟨rfl, rfl⟩ := hd
    obtain ⟨S, I, k1, k2, k3, k4⟩ := drawGo_tra rest h2
    refine ⟨fun | 0 => s | k + 1 => S k, fun | 0 => x | k + 1 => I k, rfl, k2, by simp [k3], fun k hk => ?_⟩
    cases k with
    | zero => exact ⟨rfl, o, rfl, by simpa only [k1] using h1⟩
    | succ k =>
     obtain ⟨m1, m2⟩ := k4 k (by simpa using hk)
     exact ⟨by simpa using m1, by simpa using m2⟩
def Kn (β0 : Ren) (n0 id : Nat) : Prop := (β0 id).isSome = true ∨ n0 ≤ id
structure Tra (P : Program) (call : Call') (ops : Array Oper) (S : Nat → St) (I : Nat → Inf) (β0 : Ren) : Prop where
 ran : ∀ k, k < ops.size → ∃ o v h', ops[k]? = some o ∧ Ran P call ops o (S k).e { (S k).h with wr := BIG } v h' ∧ putE (S k).e (S 0).sz o.dst v = some (S (k + 1)).e ∧
  (S (k + 1)).h = { h' with wr := min (S k).h.wr h'.wr } ∧ (I k).w = h'.wr ∧ ((I k).quiet = true → (S k).h.next ≤ h'.wr) ∧
  ((I k).still = true → h' = { (S k).h with wr := BIG } ∧ (wantedA ops (S k).e o = some true → floats o.op = true ∧ ∀ id, readId (S k).e o.op = some id → (I k).root = some (max id (rootOf (S k).h id)) ∧ max id (rootOf (S k).h id) < (S k).h.next))
 sz : ∀ k, k ≤ ops.size → (S k).sz = (S 0).sz
 big : ∀ k, k ≤ ops.size → (S k).h.wr ≤ BIG ∧ (S k).h.next ≤ BIG
 wf : ∀ k, k ≤ ops.size → Wf (S k).h
 cl : ∀ k, k ≤ ops.size → ∀ t v, (S k).e.get t = some v → Cl (S k).h.next v
 clr : ∀ k, k ≤ ops.size → ∀ id f, id < (S k).h.next → Kn β0 (S 0).h.next id → (S k).h.fam id = some f → ∀ p v, f.lo ≤ p → p < f.rb id → f.data[p]? = some v → Cl (S k).h.next v
 clm : ∀ k, k ≤ ops.size → ∀ id es ck, id < (S k).h.next → Kn β0 (S 0).h.next id → (S k).h.t.get id = some (.map es ck) → ∀ (i : Nat) en, es[i]? = some en → Cl (S k).h.next en.val
 cll : ∀ k, k ≤ ops.size → ∀ id r, id < (S k).h.next → Kn β0 (S 0).h.next id → (S k).h.t.get id = some (.loop r) → ∀ t v, r.e.get t = some v → Cl (S k).h.next v
 next : ∀ k, k < ops.size → (S k).h.next ≤ (S (k + 1)).h.next
 wr : ∀ k, k < ops.size → (S (k + 1)).h.wr ≤ (S k).h.wr
 root : ∀ k, k < ops.size → ∀ id, id < (S k).h.next → rootOf (S (k + 1)).h id = rootOf (S k).h id
 ro : ∀ k, k < ops.size → ∀ id, id < (S k).h.next → roOf (S (k + 1)).h id = roOf (S k).h id
 objs : ∀ k, k < ops.size → ∀ id, id < (S k).h.next → id < (I k).w → (S (k + 1)).h.t.get id = (S k).h.t.get id
theorem sim_step {call : Call'} (hN : Named P) (hcall : CallSound P call) {ops : Array Oper} {o : Oper} {s s' : St} {x : Inf} (hB : s.h.wr ≤ BIG) (hd : draw1 P call ops o s = some (s', x)) {k0 : Nat} (hR : Rst k0 β s a w) :
  s'.sz = s.sz ∧ ∃ β' a' w', Rst k0 β' s' a' w' ∧ Evo β s.h w β' s'.h w' ∧ (∀ id, id < s.h.next → id < x.w → s'.h.t.get id = s.h.t.get id) := by
 obtain ⟨v, h', k1, k2, ks, k3, k4, _, _⟩ := draw1_ran hB hd
 obtain ⟨v', w', β', m1, m2, m3, m4⟩ := ran_get hN hcall (hR.hr.wr_any BIG) (hR.hw.wr_any BIG) hR.he k1
 refine ⟨ks, β', a.put o.dst v', w', ⟨?_, ?_, putE_sound (hR.he.mono m4.sub) hR.sz k2 m1, by rw [put_size, ks]; exact hR.sz, ?_⟩, ?_, fun id q1 q2 => ?_⟩
 ·rw [k3]; exact m2.wr_any _
 ·rw [k3]; exact m3.wr_any _
 ·rw [put_defers]; exact hR.hd.evo m4
 ·rw [k3]; exact m4.wr_min
 ·rw [k3]
  exact m4.objs id q1 (by rw [← k4]; exact q2)
theorem sim {call : Call'} (hN : Named P) (hcall : CallSound P call) {ops : Array Oper} {S : Nat → St} {I : Nat → Inf} (hB : (S 0).h.wr ≤ BIG) (n : Nat)
  (hs : ∀ k, k < n → ∃ o, ops[k]? = some o ∧ draw1 P call ops o (S k) = some (S (k + 1), I k)) {k0 : Nat} (hR : Rst k0 β (S 0) a w) :
  ∀ k, k ≤ n → (S k).h.wr ≤ BIG ∧ (S k).sz = (S 0).sz ∧ ∃ β' a' w', Rst k0 β' (S k) a' w' ∧ Evo β (S 0).h w β' (S k).h w'
 | 0, _ => ⟨hB, rfl, β, a, w, hR, .refl _ _ _⟩
 | k + 1, hk => by
  obtain ⟨hB', hz', β', a', w', hR', hE'⟩ := sim hN hcall hB n hs hR k (by omega)
  obtain ⟨o, _, hd⟩ := hs k (by omega)
  obtain ⟨hz, β2, a2, w2, k1, k2, _⟩ := sim_step hN hcall hB' hd hR'
  exact ⟨Nat.le_trans k2.wr hB', hz.trans hz', β2, a2, w2, k1, hE'.trans hR.hr k2⟩
theorem Evo.knows {β0 : Ren} {h0 : AH} {w0 : World} (hE : Evo β0 h0 w0 β h w) {id : Nat} (hid : id < h.next) (hk : Kn β0 h0.next id) : ∃ x, β id = some x := by
 rcases hk with k | k
 ·cases h1 : β0 id with
  | none => rw [h1] at k; cases k
  | some x => exact ⟨x, hE.sub _ _ h1⟩
 ·have := hE.all id k hid
  cases h1 : β id with
  | none => rw [h1] at this; cases this
  | some x => exact ⟨x, rfl⟩
theorem tra_of {call : Call'} (hN : Named P) (hcall : CallSound P call) {ops : Array Oper} {S : Nat → St} {I : Nat → Inf} (hB : (S 0).h.wr ≤ BIG) (hn : (S ops.size).h.next ≤ BIG)
  (hs : ∀ k, k < ops.size → ∃ o, ops[k]? = some o ∧ draw1 P call ops o (S k) = some (S (k + 1), I k)) {k0 : Nat} (hR : Rst k0 β (S 0) a w) : Tra P call ops S I β := by
 have hsim := sim hN hcall hB ops.size hs hR
 have hstep : ∀ k, k < ops.size → ∃ β1 w1 β2 w2, Evo β1 (S k).h w1 β2 (S (k + 1)).h w2 ∧ (∀ id, id < (S k).h.next → id < (I k).w → (S (k + 1)).h.t.get id = (S k).h.t.get id) := fun k hk => by
  obtain ⟨hB', _, β', a', w', hR', _⟩ := hsim k (by omega)
  obtain ⟨o, _, hd⟩ := hs k hk
  obtain ⟨_, β2, a2, w2, k1, k2, k3⟩ := sim_step hN hcall hB' hd hR'
  exact ⟨_, _, _, _, k2, k3⟩
 have hnext : ∀ k, k < ops.size → (S k).h.next ≤ (S (k + 1)).h.next := fun k hk => let ⟨_, _, _, _, hE, _⟩ := hstep k hk; hE.next
 have hup : ∀ d k, k + d = ops.size → (S k).h.next ≤ BIG := by
  intro d
  induction d with
  | zero => intro k hk; have : k = ops.size := hk; rw [this]; exact hn
  | succ d ih => intro k hk; exact Nat.le_trans (hnext k (by omega)) (ih (k + 1) (by omega))
 refine ⟨fun k hk => ?_, fun k hk => (hsim k hk).2.1, fun k hk => ⟨(hsim k hk).1, hup (ops.size - k) k (by omega)⟩, fun k hk => ?_, fun k hk t v hv => ?_, fun k hk id f hid hkn hf p v q1 q2 q3 => ?_, fun k hk id es ck hid hkn hg i en hi => ?_, fun k hk id r hid hkn hg t v hv => ?_, hnext, ?_, ?_, ?_, ?_⟩
 ·obtain ⟨o, ho, hd⟩ := hs k hk
  obtain ⟨v, h', k1, k2, _, k3, k4, k5, k6⟩ := draw1_ran (hsim k (by omega)).1 hd
  exact ⟨o, v, h', ho, k1, by rw [← (hsim k (by omega)).2.1]; exact k2, k3, k4, fun q => k5 q (hup (ops.size - k) k (by omega)), k6⟩
 ·obtain ⟨_, _, _, _, _, hR', _⟩ := hsim k hk; exact hR'.hw
 ·obtain ⟨_, _, β', a', w', hR', _⟩ := hsim k hk
  obtain ⟨v', _, hv'⟩ := hR'.he t v hv
  exact Cl.of_vr (fun id x hx => (hR'.hr.dom id x hx).1) hv'
 ·obtain ⟨_, _, β', a', w', hR', hE'⟩ := hsim k hk
  obtain ⟨x, hx⟩ := hE'.knows hid hkn
  obtain ⟨_, c, el, fz, _, _, m3, _⟩ := hR'.hr.row _ _ _ hx hf
  obtain ⟨v', _, hv'⟩ := m3 p v q1 q2 q3
  exact Cl.of_vr (fun id x hx => (hR'.hr.dom id x hx).1) hv'
 ·obtain ⟨_, _, β', a', w', hR', hE'⟩ := hsim k hk
  obtain ⟨x, hx⟩ := hE'.knows hid hkn
  obtain ⟨es', _, m1, m2⟩ := hR'.hr.map _ _ _ _ hx hg
  have hlt : i < es.length := by
   rcases Nat.lt_or_ge i es.length with q | q
   ·exact q
   ·rw [List.getElem?_eq_none q] at hi; cases hi
  exact Cl.of_vr (fun id x hx => (hR'.hr.dom id x hx).1) (m2 i en _ hi (List.getElem?_eq_getElem (by omega))).val
 ·obtain ⟨_, _, β', a', w', hR', hE'⟩ := hsim k hk
  obtain ⟨x, hx⟩ := hE'.knows hid hkn
  obtain ⟨r', _, m1⟩ := hR'.hr.loop _ _ _ hx hg
  obtain ⟨v', _, hv'⟩ := m1.env t v hv
  exact Cl.of_vr (fun id x hx => (hR'.hr.dom id x hx).1) hv'
 ·intro k hk; obtain ⟨_, _, _, _, hE, _⟩ := hstep k hk; exact hE.wr
 ·intro k hk; obtain ⟨_, _, _, _, hE, _⟩ := hstep k hk; exact hE.root
 ·intro k hk; obtain ⟨_, _, _, _, hE, _⟩ := hstep k hk; exact hE.ro
 ·intro k hk; obtain ⟨_, _, _, _, hE, ho⟩ := hstep k hk; exact ho
end
end Go.AM
namespace Go.AM
inductive Pr (ops : Array Oper) : Nat → Nat → Prop where
 | edge {j : Nat} {o : Oper} {e : Edge} : ops[j]? = some o → e ∈ o.after → Region.binds .any e = true → Pr ops e.on j
 | trans {i j k : Nat} : Pr ops i k → Pr ops k j → Pr ops i j
theorem inner_pr {acc : Array Nat} {i : Nat} : ∀ (l : List Edge) (s : Nat), (l.foldl (fun s e => if Region.binds .any e then s ||| 2 ^ e.on ||| acc.getD e.on 0 else s) s).testBit i = true →
  s.testBit i = true ∨ ∃ e ∈ l, Region.binds .any e = true ∧ (e.on = i ∨ (acc.getD e.on 0).testBit i = true)
 | [], s, h => .inl h
 | e :: l, s, h => by
  rw [List.foldl_cons] at h
  rcases inner_pr l _ h with k | ⟨e', k1, k2⟩
  ·split at k
   ·rename_i hb
    rw [Nat.testBit_or, Nat.testBit_or, Nat.testBit_two_pow] at k
    simp only [Bool.or_eq_true, decide_eq_true_eq] at k
    rcases k with (k | k) | k
    ·exact .inl k
    ·exact .inr ⟨e, List.mem_cons_self, hb, .inl k⟩
    ·exact .inr ⟨e, List.mem_cons_self, hb, .inr k⟩
   ·exact .inl k
  ·exact .inr ⟨e', List.mem_cons_of_mem _ k1, k2⟩
theorem outer_pr {ops : Array Oper} : ∀ (l : List Oper) (acc : Array Nat), (∀ i j, (acc.getD j 0).testBit i = true → Pr ops i j) → (∀ k o, l[k]? = some o → ops[acc.size + k]? = some o) →
  ∀ i j, ((l.foldl (fun acc o => acc.push (o.after.foldl (fun s e => if Region.binds .any e then s ||| 2 ^ e.on ||| acc.getD e.on 0 else s) 0)) acc).getD j 0).testBit i = true → Pr ops i j
 | [], acc, h1, _, i, j, h => h1 i j h
 | o :: l, acc, h1, h2, i, j, h => by
  rw [List.foldl_cons] at h
  refine outer_pr l _ (fun i j hj => ?_) (fun k o' hk => ?_) i j h
  ·rw [Array.getD_eq_getD_getElem?, Array.getElem?_push] at hj
   split at hj
   ·rename_i hq
    subst hq
    simp only [Option.getD_some] at hj
    rw [← Array.foldl_toList] at hj
    have h0 : ops[acc.size]? = some o := by simpa using h2 0 o rfl
    rcases inner_pr _ _ hj with k | ⟨e, k1, k2, k3⟩
    ·simp at k
    ·rcases k3 with k3 | k3
     ·subst k3; exact .edge h0 (Array.mem_toList_iff.1 k1) k2
     ·exact .trans (h1 _ _ k3) (.edge h0 (Array.mem_toList_iff.1 k1) k2)
   ·exact h1 i j (by rw [Array.getD_eq_getD_getElem?]; exact hj)
  ·have := h2 (k + 1) o' (by simpa using hk)
   simpa [Array.size_push, Nat.add_assoc, Nat.add_comm 1 k] using this
theorem before_pr {ops : Array Oper} {i j : Nat} (h : ((Region.before ops).getD j 0).testBit i = true) : Pr ops i j := by
 unfold Region.before at h
 rw [← Array.foldl_toList] at h
 exact outer_pr ops.toList #[] (fun i j hj => by simp at hj) (fun k o hk => by simpa using hk) i j h
theorem ordered_pr {ops : Array Oper} {i j : Nat} (h : ordered (Region.before ops) i j = true) : (i < j → Pr ops i j) ∧ (j < i → Pr ops j i) := by
 unfold ordered at h
 refine ⟨fun k => ?_, fun k => ?_⟩
 ·rw [Nat.max_eq_right (by omega), Nat.min_eq_left (by omega)] at h; exact before_pr h
 ·rw [Nat.max_eq_left (by omega), Nat.min_eq_right (by omega)] at h; exact before_pr h
theorem drawOk_spec {ops : Array Oper} (h : drawOk ops = true) {j : Nat} {oj : Oper} (hj : ops[j]? = some oj) :
  (∀ e ∈ oj.after, Region.binds .any e = true → e.on < j) ∧
  ∀ i oi, ops[i]? = some oi → i ≠ j → ((i < j → Pr ops i j) ∧ (j < i → Pr ops j i)) ∨ ∀ d, oi.dst = some d → d ∉ oj.looksAt ops ∧ oj.dst ≠ some d := by
 have hlt : ∀ {i o}, ops[i]? = some o → i < ops.size := fun hi => (Array.getElem?_eq_some_iff.1 hi).1
 simp only [drawOk, List.all_eq_true, List.mem_range] at h
 have h1 := h j (hlt hj)
 rw [hj] at h1
 simp only [Bool.and_eq_true] at h1
 obtain ⟨⟨h2, _⟩, h3⟩ := h1
 refine ⟨fun e he hb => ?_, fun i oi hi hne => ?_⟩
 ·have := Array.all_eq_true_iff_forall_mem.1 h2 e he
  simpa [hb] using this
 ·have := List.all_eq_true.1 h3 i (List.mem_range.2 (hlt hi))
  rw [hi] at this
  simp only [Bool.or_eq_true, beq_iff_eq, hne, false_or] at this
  rcases this with k | k
  ·exact .inl (ordered_pr k)
  ·right
   intro d hd
   rw [hd] at k
   simpa using k
def restr (e : Tr Value) : List Nat → Tr Value
 | [] => .leaf
 | t :: r => match e.get t with | some v => (restr e r).set t v | none => restr e r
theorem get_restr (e : Tr Value) : ∀ (l : List Nat) (t : Nat), (restr e l).get t = if t ∈ l then e.get t else none
 | [], t => rfl
 | u :: r, t => by
  simp only [restr]
  cases hu : e.get u with
  | some v =>
   simp only [Tr.get_set, get_restr e r t, List.mem_cons]
   by_cases hq : t = u
   ·subst hq; simp [hu]
   ·simp [hq]
  | none =>
   simp only [get_restr e r t, List.mem_cons]
   by_cases hq : t = u
   ·subst hq; simp [hu]
   ·simp [hq]
section
variable {P : Program} {β β' : Ren} {h h' : AH} {w w' : World} {e : Tr Value} {a : Act}
def RelO (β : Ren) : Option Value → Option Value → Prop
 | some v, some v' => VR β v v'
 | none, _ => True
 | _, _ => False
theorem RelO.mono (hs : Sub β β') {o o' : Option Value} (hr : RelO β o o') : RelO β' o o' := by
 cases o <;> cases o' <;> first | exact hr | exact VR.mono hs hr
theorem RelO.some {v : Value} {o' : Option Value} (hr : RelO β (some v) o') : ∃ v', o' = some v' ∧ VR β v v' := by
 cases o' with
 | none => exact hr.elim
 | some v' => exact ⟨v', rfl, hr⟩
theorem envW_iff {tmps : Array Value} : EnvW β e tmps ↔ ∀ t, RelO β (e.get t) tmps[t]? := by
 constructor
 ·intro h t
  cases h1 : e.get t with
  | none => trivial
  | some v =>
   obtain ⟨v', h2, h3⟩ := h t v h1
   rw [h2]; exact h3
 ·intro h t v hv
  have := h t
  rw [hv] at this
  exact this.some
theorem mem_looks_op {ops : Array Oper} {o : Oper} {t : Nat} (h : Operand.tmp t ∈ o.op.operands) : t ∈ o.looksAt ops :=
 List.mem_append_left _ (List.mem_filterMap.2 ⟨.tmp t, by simpa using h, rfl⟩)
theorem mem_looks_guard {ops : Array Oper} {o : Oper} {g : Nat} {b : Bool} {t : Nat} (hg : o.guard = some (g, b)) (h : (ops[g]?).bind (·.dst) = some t) : t ∈ o.looksAt ops := by
 refine List.mem_append_right _ ?_
 simp [hg, h]
theorem ran_congr {call : Call'} {ops : Array Oper} {o : Oper} {e2 : Tr Value} {v : Value} (hr : Ran P call ops o e h v h') (hx : ∀ t ∈ o.looksAt ops, e2.get t = e.get t) : Ran P call ops o e2 h v h' := by
 have hw : wantedA ops e2 o = wantedA ops e o := by
  unfold wantedA
  cases hg : o.guard with
  | none => rfl
  | some gb =>
   obtain ⟨g, b⟩ := gb
   simp only
   cases hd : (ops[g]?).bind (·.dst) with
   | none => rfl
   | some t => simp only [hx t (mem_looks_guard hg hd)]
 have hd : doOp P call e2 h o = doOp P call e h o := doOp_congr fun x hx' => by
  cases x with
  | tmp t => exact hx t (mem_looks_op hx')
  | _ => rfl
 unfold Ran
 rw [hw, hd]
 exact hr
theorem ran_still {call : Call'} {ops : Array Oper} {o : Oper} {g : AH} {v : Value} (hr : Ran P call ops o e h v h)
  (hf : wantedA ops e o = some true → floats o.op = true ∧ ∀ id, readId e o.op = some id → g.fam id = h.fam id ∧ g.t.get id = h.t.get id) : Ran P call ops o e g v g := by
 rcases hr with ⟨h1, h2⟩ | ⟨h1, h2, _⟩
 ·obtain ⟨f1, f2⟩ := hf h1
  refine .inl ⟨h1, ?_⟩
  have hc : ∀ c, o.op ≠ .call c := fun c hc => by rw [hc] at f1; cases f1
  unfold doOp at h2 ⊢
  split
  ·rename_i c hop; exact absurd hop (hc c)
  ·split at h2
   ·rename_i c hop; exact absurd hop (hc c)
   ·exact still_ext f1 h2 f2
 ·exact .inr ⟨h1, h2, rfl⟩
theorem root_lt (hw : Wf h) {id : Nat} (hid : id < h.next) : rootOf h id < h.next := by
 unfold rootOf
 cases hf : h.fam id with
 | none => exact hid
 | some f => obtain ⟨n0, hr⟩ := fam_root hf; exact hw.lt _ _ hr
theorem fam_keep (hw : Wf h) {id : Nat} (h1 : h'.t.get id = h.t.get id) (h2 : h'.t.get (rootOf h id) = h.t.get (rootOf h id)) : h'.fam id = h.fam id := by
 cases hg : h.t.get id with
 | none => unfold AH.fam; rw [h1, hg]
 | some o =>
  cases o with
  | row => unfold AH.fam; rw [h1, hg]
  | map => unfold AH.fam; rw [h1, hg]
  | loop => unfold AH.fam; rw [h1, hg]
  | alias r lo n =>
   obtain ⟨d, c, l, ro, n0, hr, _⟩ := hw.ali _ _ _ _ hg
   have hf : h.fam id = some ⟨r, lo, n, d, c, l, ro⟩ := by unfold AH.fam; rw [hg]; simp only [hr]
   rw [rootOf_eq hf] at h2
   simp only at h2
   rw [hf]
   unfold AH.fam
   rw [h1, hg]
   simp only [h2, hr]
section trace
variable {call : Call'} {ops : Array Oper} {S : Nat → St} {I : Nat → Inf} {β0 : Ren} (T : Tra P call ops S I β0)
include T
theorem Tra.mono {m : Nat} : ∀ d, m + d ≤ ops.size → (S m).h.next ≤ (S (m + d)).h.next
 | 0, _ => Nat.le_refl _
 | d + 1, h => Nat.le_trans (Tra.mono d (by omega)) (T.next (m + d) (by omega))
theorem Tra.mono' {m m' : Nat} (hm : m ≤ m') (h : m' ≤ ops.size) : (S m).h.next ≤ (S m').h.next := by
 have := T.mono (m := m) (m' - m) (by omega)
 rwa [show m + (m' - m) = m' by omega] at this
theorem Tra.keep {m : Nat} {id : Nat} (hid : id < (S m).h.next) : ∀ d, m + d ≤ ops.size → (∀ i, m ≤ i → i < m + d → (I i).quiet = true ∨ max id (rootOf (S m).h id) < (I i).w) →
  (S (m + d)).h.t.get id = (S m).h.t.get id ∧ (S (m + d)).h.fam id = (S m).h.fam id
 | 0, _, _ => ⟨rfl, rfl⟩
 | d + 1, h, hq => by
  obtain ⟨k1, k2⟩ := Tra.keep hid d (by omega) fun i a b => hq i a (by omega)
  have hr : rootOf (S (m + d)).h id = rootOf (S m).h id := by unfold rootOf; rw [k2]
  have hw := T.wf (m + d) (by omega)
  have hlt : id < (S (m + d)).h.next := Nat.lt_of_lt_of_le hid (T.mono d (by omega))
  have hrl := root_lt hw hlt
  have hb : max id (rootOf (S (m + d)).h id) < (I (m + d)).w := by
   rcases hq (m + d) (by omega) (by omega) with q | q
   ·obtain ⟨o, v, h', _, _, _, _, t5, t6, _⟩ := T.ran (m + d) (by omega)
    have := t6 q
    rw [t5]
    omega
   ·rw [hr]; exact q
  have e1 := T.objs (m + d) (by omega) id hlt (by omega)
  have e2 := T.objs (m + d) (by omega) (rootOf (S (m + d)).h id) hrl (by omega)
  exact ⟨e1.trans k1, (fam_keep hw e1 e2).trans k2⟩
theorem Tra.keep' {m m' : Nat} {id : Nat} (hm : m ≤ m') (hs : m' ≤ ops.size) (hid : id < (S m).h.next) (hq : ∀ i, m ≤ i → i < m' → (I i).quiet = true ∨ max id (rootOf (S m).h id) < (I i).w) :
  (S m').h.t.get id = (S m).h.t.get id ∧ (S m').h.fam id = (S m).h.fam id := by
 have := T.keep hid (m' - m) (by omega) fun i a b => hq i a (by omega)
 rwa [show m + (m' - m) = m' by omega] at this
theorem Tra.roots {m : Nat} {id : Nat} (hid : id < (S m).h.next) : ∀ d, m + d ≤ ops.size → rootOf (S (m + d)).h id = rootOf (S m).h id ∧ roOf (S (m + d)).h id = roOf (S m).h id
 | 0, _ => ⟨rfl, rfl⟩
 | d + 1, h => by
  obtain ⟨k1, k2⟩ := Tra.roots hid d (by omega)
  have hlt : id < (S (m + d)).h.next := Nat.lt_of_lt_of_le hid (T.mono d (by omega))
  exact ⟨(T.root (m + d) (by omega) id hlt).trans k1, (T.ro (m + d) (by omega) id hlt).trans k2⟩
theorem Tra.wrs : ∀ d, d ≤ ops.size → (S d).h.wr ≤ (S 0).h.wr
 | 0, _ => Nat.le_refl _
 | d + 1, h => Nat.le_trans (T.wr d (by omega)) (Tra.wrs d (by omega))
theorem Tra.slot {m t : Nat} : ∀ d, m + d ≤ ops.size → (∀ i o, m ≤ i → i < m + d → ops[i]? = some o → o.dst ≠ some t) → (S (m + d)).e.get t = (S m).e.get t
 | 0, _, _ => rfl
 | d + 1, h, hq => by
  have ih := Tra.slot d (by omega) fun i o a b => hq i o a (by omega)
  obtain ⟨o, v, h', ho, _, hp, _⟩ := T.ran (m + d) (by omega)
  have hne := hq (m + d) o (by omega) (by omega) ho
  have : (S (m + (d + 1))).e.get t = (S (m + d)).e.get t := by
   cases hd : o.dst with
   | none =>
    rw [hd] at hp
    have hp : (S (m + d)).e = (S (m + d + 1)).e := Option.some.inj hp
    show (S (m + d + 1)).e.get t = _
    rw [← hp]
   | some u =>
    rw [hd] at hp hne
    simp only [putE] at hp
    split at hp
    ·have hp := Option.some.inj hp
     show (S (m + d + 1)).e.get t = _
     rw [← hp]
     exact Tr.get_set_ne _ _ (fun q => hne (by rw [q]))
    ·cases hp
  exact this.trans ih
theorem Tra.slot' {m m' t : Nat} (hm : m ≤ m') (h : m' ≤ ops.size) (hq : ∀ i o, m ≤ i → i < m' → ops[i]? = some o → o.dst ≠ some t) : (S m').e.get t = (S m).e.get t := by
 have := T.slot (m := m) (t := t) (m' - m) (by omega) fun i o a b => hq i o a (by omega)
 rwa [show m + (m' - m) = m' by omega] at this
theorem Tra.heap {i : Nat} (hi : i < ops.size) (hs : (I i).still = true) : (S (i + 1)).h = (S i).h := by
 obtain ⟨o, v, h', _, _, _, t4, _, _, t7⟩ := T.ran i hi
 rw [t4, (t7 hs).1]
 simp only [Nat.min_eq_left (T.big i (by omega)).1]
theorem Tra.heaps {m : Nat} : ∀ d, m + d ≤ ops.size → (∀ i, m ≤ i → i < m + d → (I i).still = true) → (S (m + d)).h = (S m).h
 | 0, _, _ => rfl
 | d + 1, h, hq => (T.heap (by omega) (hq (m + d) (by omega) (by omega))).trans (Tra.heaps d (by omega) fun i a b => hq i a (by omega))
omit T in
theorem tra_range {id : Nat} (h0 : (S 0).h.next ≤ id) : ∀ m, m ≤ ops.size → id < (S m).h.next → ∃ i, i < m ∧ (S i).h.next ≤ id ∧ id < (S (i + 1)).h.next
 | 0, _, h => absurd h (by omega)
 | m + 1, hm, h => by
  by_cases h1 : id < (S m).h.next
  ·obtain ⟨i, k1, k2⟩ := tra_range h0 m (by omega) h1
   exact ⟨i, by omega, k2⟩
  ·exact ⟨m, by omega, by omega, h⟩
end trace
end
theorem stable_still {W : Nat} {x : Inf} (h : stable W x = true) : x.still = true := by
 unfold stable at h
 simp only [Bool.and_eq_true] at h
 exact h.1
structure Plan (P : Program) (call : Call') (ops : Array Oper) (S : Nat → St) (I : Nat → Inf) (β0 : Ren) (sb : Nat → Bool) (k0 : Nat) : Prop where
 T : Tra P call ops S I β0
 ok : drawOk ops = true
 k0n : k0 ≤ ops.size
 early : ∀ i, i < k0 → (I i).quiet = true
 tail : ∀ j, j < ops.size → k0 ≤ j → sb j = false → ∀ i, i < j → sb i = false → Pr ops i j
 stl : ∀ i, i < ops.size → sb i = true → (I i).still = true
 low : ∀ j, j < ops.size → sb j = true → ∀ r, (I j).root = some r → ∀ i, i < ops.size → (I i).quiet = true ∨ r < (I i).w ∨ (i ≠ j ∧ (i < j → Pr ops i j) ∧ (j < i → Pr ops j i) ∧ (sb i = true → (I i).quiet = true))
theorem least_le : ∀ {xs : List Inf} {i : Nat} {x : Inf}, xs[i]? = some x → x.quiet = true ∨ least xs ≤ x.w
 | [], i, x, h => by cases h
 | y :: l, 0, x, h => by
  simp only [List.getElem?_cons_zero, Option.some.injEq] at h
  subst h
  simp only [least]
  cases hq : y.quiet
  ·right; simp only [Bool.false_eq_true, if_false]; exact Nat.min_le_left _ _
  ·exact .inl rfl
 | y :: l, i + 1, x, h => by
  rcases least_le (xs := l) (i := i) (by simpa using h) with k | k
  ·exact .inl k
  ·right
   simp only [least]
   split
   ·exact k
   ·exact Nat.le_trans (Nat.min_le_right _ _) k
theorem first_not (p : Nat → Bool) : ∀ n, ∃ k, k ≤ n ∧ (∀ i, i < k → p i = true) ∧ (k < n → p k = false)
 | 0 => ⟨0, Nat.le_refl _, fun i h => absurd h (Nat.not_lt_zero i), fun h => absurd h (Nat.not_lt_zero 0)⟩
 | n + 1 => by
  obtain ⟨k, h1, h2, h3⟩ := first_not p n
  by_cases hk : k < n
  ·exact ⟨k, by omega, h2, fun _ => h3 hk⟩
  ·have : k = n := by omega
   subst this
   cases hp : p k with
   | false => exact ⟨k, by omega, h2, fun _ => hp⟩
   | true => exact ⟨k + 1, by omega, fun i hi => by rcases Nat.lt_or_ge i k with q | q; exact h2 i q; rw [show i = k by omega]; exact hp, fun q => absurd q (by omega)⟩
theorem plan_of {P : Program} {call : Call'} {ops : Array Oper} {S : Nat → St} {I : Nat → Inf} {β0 : Ren} {xs : List Inf} (T : Tra P call ops S I β0) (hok : drawOk ops = true) (hl : xs.length = ops.size)
  (hx : ∀ k, k < ops.size → xs[k]? = some (I k)) (ht : tailOk (Region.before ops) (least xs) xs = true) : ∃ sb k0, Plan P call ops S I β0 sb k0 := by
 obtain ⟨k0, h1, h2, h3⟩ := first_not (fun i => (I i).quiet) ops.size
 have early : ∀ j, j < ops.size → k0 ≤ j → (xs.take (j + 1)).all (·.quiet) = true → False := by
  intro j hj hk q
  have h4 := h3 (by omega)
  have : (I k0) ∈ xs.take (j + 1) := by
   refine List.mem_of_getElem? (i := k0) ?_
   rw [List.getElem?_take_of_lt (by omega)]
   exact hx k0 (by omega)
  rw [List.all_eq_true.1 q _ this] at h4
  cases h4
 unfold tailOk at ht
 rw [Bool.or_eq_true] at ht
 rcases ht with ht | ht
 ·refine ⟨fun i => stable (least xs) (I i), k0, T, hok, h1, h2, fun j hj hk hs i hi hsi => ?_, fun i _ hs => stable_still hs, fun j hj hs r hr i hi => ?_⟩
  ·simp only [tailOk1, List.all_eq_true, List.mem_range, Bool.or_eq_true] at ht
   rcases ht j (by omega) with q | q
   ·exact (early j hj hk (List.all_eq_true.2 q)).elim
   ·rw [hx j hj] at q
    simp only [hs, Bool.false_eq_true, false_or, Bool.or_eq_true] at q
    have q := List.all_eq_true.1 q i (List.mem_range.2 hi)
    rw [hx i (by omega)] at q
    simp only [hsi, Bool.false_or] at q
    exact (ordered_pr q).1 hi
  ·unfold stable at hs
   rw [hr] at hs
   simp only [Bool.and_eq_true, decide_eq_true_eq] at hs
   rcases least_le (hx i hi) with q | q
   ·exact .inl q
   ·exact .inr (.inl (Nat.lt_of_lt_of_le hs.2 q))
 ·have spec : ∀ j, j < ops.size → stab (Region.before ops) xs j = true → (I j).still = true ∧ (I j).quiet = true ∧ ∀ r, (I j).root = some r → ∀ i, i < ops.size → (I i).quiet = true ∨ r < (I i).w ∨ (i ≠ j ∧ ordered (Region.before ops) i j = true) := by
   intro j hj hs
   unfold stab at hs
   rw [hx j hj] at hs
   simp only [Bool.and_eq_true] at hs
   refine ⟨hs.1.1, hs.1.2, fun r hr i hi => ?_⟩
   have q := hs.2
   rw [hr] at q
   have q := List.all_eq_true.1 q i (List.mem_range.2 (by omega))
   rw [hx i hi] at q
   simp only [Bool.or_eq_true, decide_eq_true_eq, Bool.and_eq_true, bne_iff_ne] at q
   rcases q with (q | q) | q
   ·exact .inl q
   ·exact .inr (.inl q)
   ·exact .inr (.inr q)
  refine ⟨fun i => stab (Region.before ops) xs i, k0, T, hok, h1, h2, fun j hj hk hs i hi hsi => ?_, fun i hi hs => (spec i hi hs).1, fun j hj hs r hr i hi => ?_⟩
  ·simp only [tailOk2, List.all_eq_true, List.mem_range, Bool.or_eq_true] at ht
   rcases ht j (by omega) with (q | q) | q
   ·exact (early j hj hk (List.all_eq_true.2 q)).elim
   ·rw [hs] at q; cases q
   ·rcases q i hi with q | q
    ·rw [hsi] at q; cases q
    ·exact (ordered_pr q).1 hi
  ·rcases (spec j hj hs).2.2 r hr i hi with q | q | ⟨q1, q2⟩
   ·exact .inl q
   ·exact .inr (.inl q)
   ·exact .inr (.inr ⟨q1, (ordered_pr q2).1, (ordered_pr q2).2, fun h => (spec i hi h).2.1⟩)
end Go.AM
